/- Contracts of the functions that the law reaches, and the law. Conditions: none. -/
import Derived.Test.YtijdbjjkfkjihaaGreatDoorKD
import Derived.Test.YtijdbjjkfkjihaaGreatDoorKA
import Derived.Test.YtijdbjjkfkjihaaGreatDoorKE
import Derived.Test.YtijdbjjkfkjihaaGreatDoorKF
import Derived.Test.YtijdbjjkfkjihaaGreatDoorSC
import Derived.Test.YtijdbjjkfkjihaaGreatDoorCards
import Derived.Test.YtijdbjjkfkjihaaGreatDoorTie
set_option linter.all false
/- What is at a path. Conditions: none. -/
namespace Go.Proofs.YtijdbjjkfkjihaaGreatDoor
open Go.Sy
set_option maxRecDepth 100000
set_option linter.all false
def stepV (f : Int → List UInt8) (n : Int) (s : List UInt8) : Int × Int := if (inoAt f n).k = 2 then (match fndK f n s with | none => (0, 4) | some k => ((entAt f (k : Nat)).t, 0)) else (0, 6)
def lkp (f : Int → List UInt8) : List (List UInt8) → Int → Int × Int
  | [], n => (n, 0)
  | s :: t, n => if (stepV f n s).2 = 0 then lkp f t (stepV f n s).1 else (0, (stepV f n s).2)
def lookP (f : Int → List UInt8) (p : List UInt8) : Int × Int := if (splitP p).2 = 0 then lkp f (splitP p).1 0 else (0, (splitP p).2)
end Go.Proofs.YtijdbjjkfkjihaaGreatDoor

/- A disk and an image with writes over it read alike. Conditions: none. -/
namespace Go.Proofs.YtijdbjjkfkjihaaGreatDoor
open Go.Sy
set_option maxRecDepth 100000
set_option linter.all false
theorem dsk_OK {m : List (List UInt8)} {ws : List Wr} (hm : ImOK m) (hw : WsOK ws) (hwl : ws.length ≤ 1000) : DkOK (dskOf m ws) := by
  unfold dskOf
  split
  · rename_i h
    refine ⟨hm, fun w hw' => ?_, h.2, ?_⟩
    · have hw' : w ∈ (ws.filter (okW m.length)).map fun w => { w with e := 0 } := hw'
      obtain ⟨x, hx, rfl⟩ := List.mem_map.1 hw'
      exact hw x (List.mem_filter.1 hx).1
    · show ((ws.filter (okW m.length)).map _).length ≤ 100000
      rw [List.length_map]
      have := List.length_filter_le (okW m.length) ws
      omega
  · trivial
end Go.Proofs.YtijdbjjkfkjihaaGreatDoor

/- The law. Conditions: none. -/
namespace Go.Proofs.YtijdbjjkfkjihaaGreatDoor
open Go.Sy
set_option maxRecDepth 100000
set_option linter.all false
def folderS : List UInt8 := [2, 0, 0, 0, 0, 0, 0, 0, 0, 0, 0, 0, 0, 0, 0, 0, 0, 0, 0, 0, 0, 0, 0, 0, 0, 0, 0, 0, 0, 0, 0, 0]
def emptyM : List (List UInt8) := superS :: folderS :: List.replicate 63 zeroS
def k1S : List UInt8 := [1, 0, 2, 1, 0, 0, 0, 0, 0, 0, 0, 0, 0, 0, 0, 0, 97, 0, 0, 0, 0, 0, 0, 0, 0, 0, 0, 0, 0, 0, 0, 0]
def k2S : List UInt8 := [1, 0, 0, 0, 0, 0, 0, 0, 0, 0, 0, 0, 0, 0, 0, 0, 0, 0, 0, 0, 0, 0, 0, 0, 0, 0, 0, 0, 0, 0, 0, 0]
def kW : List Wr := [⟨17, k1S, 0, 0, 0⟩, ⟨3, k2S, 0, 0, 0⟩]
theorem em_ok : ImOK emptyM := by
  intro s hs
  simp only [emptyM, List.mem_cons, List.mem_replicate] at hs
  rcases hs with rfl | rfl | ⟨_, rfl⟩ <;> rfl
theorem empty_ok : FnC Tryz.prog 27 [] (.d (encM emptyM)) := by
  have hs := refSuper_ok
  refine FnC.intro ti_ok Tryz.func27 rfl Tryz.ntmps27 Tryz.call27 rfl (Nat.le_of_ble_eq_true rfl) rfl ?_
  (repeat' ((conv=>whnf);first|with_reducible refine gA ?_|((with_reducible refine callE_id ?_); (refine CallE.con ⟨_, hs, ?_⟩))|(with_reducible first|refine gB ?_|refine gZ (fun x hx hu=>?_)|refine gY (fun x hx=>?_)|refine gE ?_|refine Both.mk ?_ ?_|refine gS (fun h=>?_) (fun h=>?_)|refine Spl.nt ?_|refine Spl.mk (fun h=>?_) (fun h=>?_))))
  refine ⟨emptyM.map encS, ⟨?_, ?_, ?_, ?_⟩, ?_⟩
  · exact Nat.le_of_ble_eq_true (by kernel_rfl)
  · kernel_rfl
  · intro x hx
    obtain ⟨s, hs, rfl⟩ := List.mem_map.1 hx
    rw [encS_len]; exact em_ok s hs
  · kernel_rfl
  · rfl
def kD : Option Dk := dskOf emptyM kW
theorem f1 : lookP (rdS kD) [47, 97] = (2, 0) := by decide +kernel
theorem f2 : fndK (rdS kD) 0 [97] = some 0 := by decide +kernel
theorem f3 : lookP (rdS kD) [47, 98] = (0, 4) := by decide +kernel
theorem f4 : mntP (imgD kD) := by decide +kernel
theorem f5 : nmsK (rdS kD) 0 24 = [[97]] := by decide +kernel
theorem f6 : takP (rdS kD) 2 := by decide +kernel
theorem f8 : (entAt (rdS kD) 0).n = [97] := by decide +kernel
end Go.Proofs.YtijdbjjkfkjihaaGreatDoor

/- The law, whole. Conditions: none. -/
namespace Go.Proofs.YtijdbjjkfkjihaaGreatDoor
open Go.Sy
set_option maxRecDepth 100000
set_option linter.all false
end Go.Proofs.YtijdbjjkfkjihaaGreatDoor

/- The tree of a disk, whole. Conditions: none. -/
namespace Go.Proofs.YtijdbjjkfkjihaaGreatDoor
open Go.Sy
set_option maxRecDepth 100000
set_option linter.all false
theorem Wk.nilD {N : Nat} {σ : S} (n a b : Nat) (hn : Go.Sy.look n σ.mem = some (.cells 1 [.d (.fs a [])])) : Wk N σ ⟨σ.sl, (n, .cells 1 [.d (.fs b [])]) :: σ.mem, σ.nx⟩ := by
  refine ⟨fun κ g w0 w hst => ⟨g, ?_⟩⟩
  have on : ∀ k, On g ((n, .cells 1 [.d (.fs b [])]) :: σ.mem) k → On g σ.mem k := fun k h => by
    unfold On at h ⊢
    rw [look_cons] at h
    by_cases hk : k = n
    · subst hk; rw [hn]; trivial
    · rw [if_neg hk] at h; exact h
  refine ⟨hst.size, hst.defers, hst.sl, ⟨hst.inv.frz, fun k ob hk => ?_, fun k m hkm h h' => hst.inv.inj k m hkm (on k h) (on m h'), hst.inv.size, hst.inv.pres, fun k h => hst.inv.own k (on k h), hst.inv.f0, hst.inv.fnew, hst.inv.os, hst.inv.tape, hst.inv.output, hst.inv.dfr⟩, ?_⟩
  · rw [look_cons] at hk
    by_cases hkn : k = n
    · subst hkn
      rw [if_pos rfl] at hk
      obtain rfl := Option.some.inj hk
      obtain ⟨arr, T, e1, e2, e3, e4, e5, e6⟩ := hst.inv.obs k _ hn
      refine ⟨arr, T, e1, e2, rfl, fun j hj => ?_, fun j hj => ?_, e6⟩
      · obtain rfl : j = 0 := by simp at hj; omega
        rfl
      · obtain rfl : j = 0 := by simp at hj; omega
        have h := e5 0 (by simp)
        simp only [List.getElem_cons_zero] at h ⊢
        generalize arr.getD 0 undef = q at h
        cases h with | d _ _ hd => ?_
        cases hd with
        | fs0 => exact .d _ _ (.fs0 _ _ _)
        | fs _ _ _ _ _ _ _ hl =>
          obtain rfl : 0 = _ := hl
          exact .d _ _ (.fs0 _ _ _)
    · rw [if_neg hkn] at hk; exact hst.inv.obs k ob hk
  · have := S.ok_iff.1 hst.ok
    refine S.ok_iff.2 ⟨this.1, fun p hp => ?_⟩
    rcases List.mem_cons.1 hp with rfl | hp
    · exact ⟨(S.ok_mem hst.ok hn).1, rfl⟩
    · exact this.2 p hp
theorem FnC.res {P : Program} {f : Nat} {args : List AV} {r r' : AV} (h : FnC P f args r) (hp : r'.isP = true) (hc : ∀ g v, AVR g r v → AVR g r' v) : FnC P f args r' := ⟨hp, fun g w vs a b c => by
  rcases h.run g w vs a b c with ⟨h1, h2⟩ | ⟨v, w', h1, v', g', h2, h3, h4⟩
  · exact .inl ⟨h1, h2.mono fun e w' ⟨v, g', q1, q2, q3⟩ => ⟨v, g', q1, hc _ _ q2, q3⟩⟩
  · exact .inr ⟨v, w', h1, v', g', h2, hc _ _ h3, h4⟩⟩
/-- An empty slice is one of any element's size. -/
theorem nil_sz {g : Gh} {a b : Nat} {x : D} {v : Value} (h : AVR g (.tup [.d (.fs a []), .d x]) v) : AVR g (.tup [.d (.fs b []), .d x]) v := by
  cases h with | tup _ vs h1 h2 => ?_
  refine .tup _ _ h1 fun j hj => ?_
  have := h2 j hj
  match j, hj with
  | 0, hj =>
    simp only [List.getElem_cons_zero] at this ⊢
    generalize vs.getD 0 undef = q at this
    cases this with | d _ _ hd => ?_
    cases hd with
    | fs0 => exact .d _ _ (.fs0 _ _ _)
    | fs _ _ _ _ _ _ _ hl =>
      obtain rfl : 0 = _ := hl
      exact .d _ _ (.fs0 _ _ _)
  | 1, hj => exact this
theorem topT {L : List Nod} (h : L.length ≤ 64) : AV.tup [.d (.fs 3 (L.map encN)), .d (.bl true)] = AV.tup [.d (.fs 3 ((L.take 64).map encN)), .d (.bl (decide (L.length ≤ 64)))] := by rw [List.take_of_length_le h, decide_eq_true h]
theorem topF {L : List Nod} (h : ¬ L.length ≤ 64) : AV.tup [.d (.fs 3 ((L.take 64).map encN)), .d (.bl false)] = AV.tup [.d (.fs 3 ((L.take 64).map encN)), .d (.bl (decide (L.length ≤ 64)))] := by rw [decide_eq_false h]
set_option maxHeartbeats 8000000 in
theorem tree_ok (d : Option Dk) (hd : DkOK d) : FnC Tryz.prog 8 [.d (encD d)] (tupN (treeV (rdS d))) := by
  have hi := inode_ok d hd 0
  unfold treeV
  by_cases hk : (inoAt (rdS d) 0).k = 2
  · rw [if_pos hk]
    unfold topV tupN
    refine FnC.intro ti_ok Tryz.func8 rfl Tryz.ntmps8 Tryz.call8 rfl (Nat.le_of_ble_eq_true rfl) rfl ?_
    (repeat' ((conv=>whnf);first|with_reducible refine gA ?_|((with_reducible refine callE_id ?_); first | refine CallE.con ⟨_, hi, ?_⟩ | refine CallE.inl ?_) | with_reducible refine CallI.inl ti_ok i28 rfl ?_|(with_reducible first|refine gB ?_|refine gZ (fun x hx hu=>?_)|refine gY (fun x hx=>?_)|refine gE ?_|refine Both.mk ?_ ?_|refine gS (fun h=>?_) (fun h=>?_)|refine Spl.nt ?_|refine Spl.mk (fun h=>?_) (fun h=>?_))))
    conv => whnf
    refine RangeS.wk (Wk.trans (Wk.trans (Wk.nlTs 2 0 1 3 35 (by with_unfolding_all exact rfl) (by with_unfolding_all exact rfl)) (Wk.nilD 6 0 1 (by with_unfolding_all exact rfl))) (Wk.enF (τ := ⟨[(2, .ptr 0 0), (3, .ptr 1 0), (4, .ptr 2 0), (11, clo 4 5 6)], c3 d 0 (.fs 1 (vS [])) 4 5 6 ++ tm0 [], 8⟩) (by (repeat (first | exact trivial | refine And.intro rfl ?_))) (by (repeat (first | exact trivial | refine And.intro (obw_eq rfl (by with_unfolding_all exact rfl)) ?_ | refine And.intro (obw_fr (by with_unfolding_all exact rfl) (by (repeat (first | exact trivial | refine And.intro (by with_unfolding_all exact rfl) ?_)))) ?_))) rfl)) ?_
    refine RangeS.introW ti_ok i60 rfl rfl (lvl0 d hd 0 [] rfl (fun s hs => by cases hs) [] (Nat.zero_le _) [] rfl _ ?_ ?_ ?_)
    · intro h2
      (repeat' ((conv=>whnf);first|with_reducible refine gA ?_|(with_reducible first|refine gB ?_|refine gZ (fun x hx hu=>?_)|refine gY (fun x hx=>?_)|refine gE ?_|refine Both.mk ?_ ?_|refine gS (fun h=>?_) (fun h=>?_)|refine Spl.nt ?_|refine Spl.mk (fun h=>?_) (fun h=>?_))))
      exact topT h2
    · intro h2
      (repeat' ((conv=>whnf);first|with_reducible refine gA ?_|(with_reducible first|refine gB ?_|refine gZ (fun x hx hu=>?_)|refine gY (fun x hx=>?_)|refine gE ?_|refine Both.mk ?_ ?_|refine gS (fun h=>?_) (fun h=>?_)|refine Spl.nt ?_|refine Spl.mk (fun h=>?_) (fun h=>?_))))
      exact topT h2
    · intro h2
      (repeat' ((conv=>whnf);first|with_reducible refine gA ?_|(with_reducible first|refine gB ?_|refine gZ (fun x hx hu=>?_)|refine gY (fun x hx=>?_)|refine gE ?_|refine Both.mk ?_ ?_|refine gS (fun h=>?_) (fun h=>?_)|refine Spl.nt ?_|refine Spl.mk (fun h=>?_) (fun h=>?_))))
      exact topF h2
  · rw [if_neg hk]
    refine FnC.res (r := .tup [.d (.fs 0 []), .d (.bl true)]) ?_ rfl fun g v => nil_sz
    refine FnC.intro ti_ok Tryz.func8 rfl Tryz.ntmps8 Tryz.call8 rfl (Nat.le_of_ble_eq_true rfl) rfl ?_
    (repeat' ((conv=>whnf);first|with_reducible refine gA ?_|((with_reducible refine callE_id ?_); refine CallE.con ⟨_, hi, ?_⟩)|(with_reducible first|refine gB ?_|refine gZ (fun x hx hu=>?_)|refine gY (fun x hx=>?_)|refine gE ?_|refine Both.mk ?_ ?_|refine gS (fun h=>?_) (fun h=>?_)|refine Spl.nt ?_|refine Spl.mk (fun h=>?_) (fun h=>?_))))
    exact rfl
end Go.Proofs.YtijdbjjkfkjihaaGreatDoor

/- Lists of nodes alike; what is known. Conditions: none. -/
namespace Go.Proofs.YtijdbjjkfkjihaaGreatDoor
open Go.Sy
set_option maxRecDepth 100000
set_option linter.all false
theorem eqNn (x y : Nod) : eqDs (encN x) (encN y) = decide (x = y) := by
  obtain ⟨p, d, t⟩ := x
  obtain ⟨p', d', t'⟩ := y
  rw [Bool.eq_iff_iff]
  simp [eqDs, eqD, encN]
theorem take_endN {α : Type} {a b : List α} {k : Nat} (h : a.take k = b.take k) (ha : a.length ≤ k) (hb : b.length ≤ k) : a = b := by
  rwa [List.take_of_length_le ha, List.take_of_length_le hb] at h
theorem sameN_ok (a b : List Nod) (ha : a.length ≤ 100000) : FnC Tryz.prog 12 [.d (.fs 3 (a.map encN)), .d (.fs 3 (b.map encN))] (.d (.bl (decide (a = b)))) := by
  refine FnC.intro ti_ok Tryz.func12 rfl Tryz.ntmps12 Tryz.call12 rfl (Nat.le_of_ble_eq_true rfl) rfl ?_
  have hla : (a.map encN).length = a.length := List.length_map ..
  have hlb : (b.map encN).length = b.length := List.length_map ..
  by_cases he : a.length = b.length
  · (repeat' ((conv=>whnf);first|with_reducible refine gA ?_|(with_reducible first|refine gB ?_|refine gZ (fun x hx hu=>?_)|refine gY (fun x hx=>?_)|refine gE ?_|refine Both.mk ?_ ?_|refine gS (fun h=>?_) (fun h=>?_)|refine Spl.nt ?_|refine Spl.mk (fun h=>?_) (fun h=>?_))))
    refine loop_rule ti_ok (fun k : Nat => k ≤ a.length ∧ a.take k = b.take k) (fun k => ⟨[(0, .d (.fs 3 (a.map encN))), (1, .d (.fs 3 (b.map encN))), (5, .d (.it .i64 k))], [], 0⟩) (fun k => a.length - k) 0 ⟨Nat.zero_le _, rfl⟩ ⟨⟨rfl, rfl, rfl, trivial⟩, trivial, rfl⟩ ?_
    intro k ⟨k1, k2⟩
    rcases Nat.lt_or_ge k a.length with hkl | hkl
    · obtain ⟨x, hx⟩ := lt_get hkl
      obtain ⟨y, hy⟩ := lt_get (l := b) (k := k) (by omega)
      (repeat' ((conv=>whnf);first|with_reducible refine gA ?_|(with_reducible first|refine gB ?_|refine gZ (fun x hx hu=>?_)|refine gY (fun x hx=>?_)|refine gE ?_|refine Both.mk ?_ ?_|refine gS (fun h=>?_) (fun h=>?_)|refine Spl.nt ?_|refine Spl.mk (fun h=>?_) (fun h=>?_))))
      · have h' : eqDs (encN x) (encN y) = true := h
        rw [eqNn, decide_eq_true_eq] at h'
        refine again (k + 1) ⟨by omega, ?_⟩ (by dsimp only; omega) (And.intro rfl (And.intro rfl (And.intro rfl trivial))) trivial rfl
        rw [take_snoc hx, take_snoc hy, k2, h']
      · have h' : eqDs (encN x) (encN y) = false := h
        rw [eqNn, decide_eq_false_iff_not] at h'
        refine bl_eq (decide_eq_false fun hab => h' ?_).symm
        rw [hab, hy] at hx
        exact (Option.some.inj hx).symm
    · (repeat' ((conv=>whnf);first|with_reducible refine gA ?_|(with_reducible first|refine gB ?_|refine gZ (fun x hx hu=>?_)|refine gY (fun x hx=>?_)|refine gE ?_|refine Both.mk ?_ ?_|refine gS (fun h=>?_) (fun h=>?_)|refine Spl.nt ?_|refine Spl.mk (fun h=>?_) (fun h=>?_))))
      exact bl_eq (decide_eq_true (take_endN k2 hkl (by omega))).symm
  · (repeat' ((conv=>whnf);first|with_reducible refine gA ?_|(with_reducible first|refine gB ?_|refine gZ (fun x hx hu=>?_)|refine gY (fun x hx=>?_)|refine gE ?_|refine Both.mk ?_ ?_|refine gS (fun h=>?_) (fun h=>?_)|refine Spl.nt ?_|refine Spl.mk (fun h=>?_) (fun h=>?_))))
    exact bl_eq (decide_eq_false fun hab => he (by rw [hab])).symm
def k3S : List UInt8 := [2, 0, 0, 0, 0, 0, 0, 0, 0, 0, 0, 0, 0, 0, 0, 0, 0, 0, 0, 0, 0, 0, 0, 0, 0, 0, 0, 0, 0, 0, 0, 0]
def kV : List Wr := [⟨17, k1S, 0, 0, 0⟩, ⟨3, k3S, 0, 0, 0⟩]
theorem kv_ok : WsOK kV := by
  intro w hw
  simp only [kV, List.mem_cons, List.not_mem_nil, or_false] at hw
  rcases hw with rfl | rfl <;> rfl
def kDV : Option Dk := dskOf emptyM kV
theorem kdv_OK : DkOK kDV := dsk_OK em_ok kv_ok (by decide)
theorem v1 : nmsK (rdS kDV) 0 24 = [[97]] := by decide +kernel
theorem v2 : nmsK (rdS kDV) 2 24 = [] := by decide +kernel
theorem v3 : mOf (rdS kDV) 0 [97] = 2 := by decide +kernel
theorem v4 : (inoAt (rdS kDV) 2).k = 2 := by decide +kernel
theorem v5 : dataV (rdS kDV) (inoAt (rdS kDV) 2) = [] := by decide +kernel
theorem v6 : (inoAt (rdS kDV) 0).k = 2 := by decide +kernel
theorem v7 : nms (rdS kDV) 0 = [[97]] := by
  unfold nms sortS
  rw [v1, List.mergeSort_singleton]; rfl
theorem v8 : nms (rdS kDV) 2 = [] := by
  unfold nms sortS
  rw [v2, List.mergeSort_nil]; rfl
theorem v9 : treeV (rdS kDV) = ([⟨[47, 97], true, []⟩], true) := by
  have e : subV (rdS kDV) 4 0 [] = [⟨[47, 97], true, []⟩] := by
    rw [subV, v7]
    show nodV (rdS kDV) [] 0 [97] :: ((if (inoAt (rdS kDV) (mOf (rdS kDV) 0 [97])).k = 2 then subV (rdS kDV) 3 (mOf (rdS kDV) 0 [97]) ([] ++ [[97]]) else []) ++ []) = _
    rw [v3, if_pos v4, subV, v8]
    show [nodV (rdS kDV) [] 0 [97]] = _
    unfold nodV
    rw [v3, v4, v5]; rfl
  unfold treeV topV
  rw [if_pos v6, e]; rfl
theorem knows14_ok : FnC Tryz.prog 7 [] (.d (.bl true)) := by
  have h1 : FnC Tryz.prog 9 [.d (encM emptyM), .d (.fs 36 (kV.map encW))] (.d (encD kDV)) := disk_ok emptyM em_ok kV kv_ok (by decide) (by decide)
  have h2 := tree_ok kDV kdv_OK
  rw [v9] at h2
  have h3 : FnC Tryz.prog 15 [.d (.fs 3 [[.st [47, 98], .bl false, .st [120, 7]]])] (.tup [.d (.st [47, 98, 32, 34, 120, 92, 48, 55, 34, 10]), .d (.bl true)]) := by
    have := vshow_ok [⟨[47, 98], false, [120, 7]⟩] (fun x hx => by rw [List.mem_singleton.1 hx]; decide) (by decide)
    rw [showV, show List.all [(⟨[47, 98], false, [120, 7]⟩ : Nod)] mayB = true by decide +kernel, if_pos rfl, show showN [⟨[47, 98], false, [120, 7]⟩] = [47, 98, 32, 34, 120, 92, 48, 55, 34, 10] by decide +kernel] at this
    exact this
  generalize kDV = dk at *
  refine FnC.intro ti_ok Tryz.func7 rfl Tryz.ntmps7 Tryz.call7 rfl (Nat.le_of_ble_eq_true rfl) rfl ?_
  (repeat' ((conv=>whnf);first|with_reducible refine gA ?_|((with_reducible refine callE_id ?_); first | refine CallE.con ⟨_, empty_ok, ?_⟩ | refine CallE.con ⟨_, h1, ?_⟩ | refine CallE.con ⟨_, h2, ?_⟩ | refine CallE.con ⟨_, h3, ?_⟩)|(with_reducible first|refine gB ?_|refine gZ (fun x hx hu=>?_)|refine gY (fun x hx=>?_)|refine gE ?_|refine Both.mk ?_ ?_|refine gS (fun h=>?_) (fun h=>?_)|refine Spl.nt ?_|refine Spl.mk (fun h=>?_) (fun h=>?_))))
  exact rfl
end Go.Proofs.YtijdbjjkfkjihaaGreatDoor

/- The law of texts. Conditions: none. -/
namespace Go.Proofs.YtijdbjjkfkjihaaGreatDoor
open Go.Sy
set_option maxRecDepth 100000
set_option linter.all false
theorem readN_len : ∀ (n : Nat) (s : List UInt8) (l : List Nod), s.length ≤ n → readN s = some l → l.length ≤ s.length
  | n, [], l, _, h => by obtain rfl := Option.some.inj (readN_nil.symm.trans h); exact Nat.le_refl _
  | 0, _ :: _, l, hn, h => by simp at hn
  | n + 1, b :: s, l, hn, h => by
    rcases hc : cutC 10 (b :: s) with ⟨line, rest⟩
    cases rest with
    | none => rw [readN_none (by simp) hc] at h; cases h
    | some rest =>
      rw [readN_some hc] at h
      have hl := congrArg List.length (cutC_some hc)
      simp only [List.length_append, List.length_cons] at hl hn
      cases hx : nodeO line with
      | none => rw [hx] at h; cases h
      | some x =>
        rw [hx] at h
        dsimp only at h
        cases hr : readN rest with
        | none => rw [hr] at h; cases h
        | some l' =>
          rw [hr] at h
          obtain rfl := Option.some.inj h
          have h2 := readN_len n rest l' (by omega) hr
          rw [List.length_cons, List.length_cons]; omega
def okT (l : List Nod) : Prop := ∀ x ∈ l, x.p.length ≤ 200 ∧ x.x.length ≤ 500
theorem okT_N {l : List Nod} (h : okT l) : okN l := fun x hx => by have := h x hx; omega
end Go.Proofs.YtijdbjjkfkjihaaGreatDoor

/- The law of texts that come back. Conditions: none. -/
namespace Go.Proofs.YtijdbjjkfkjihaaGreatDoor
open Go.Sy
set_option maxRecDepth 100000
set_option linter.all false
theorem vline_lenT {x : Nod} (h : x.p.length ≤ 200 ∧ x.x.length ≤ 500) : (vline x).length ≤ 1704 := by
  have := quoteS_len x.x
  unfold vline
  split <;> simp only [List.length_append, List.length_cons, List.length_nil] <;> omega
theorem showN_lenT : ∀ {l : List Nod}, okT l → (showN l).length ≤ 1704 * l.length
  | [], _ => by simp [showN]
  | x :: l, h => by
    have h1 := vline_lenT (h x List.mem_cons_self)
    have h2 := showN_lenT (l := l) fun y hy => h y (List.mem_cons_of_mem _ hy)
    show (vline x ++ showN l).length ≤ _
    rw [List.length_append, List.length_cons]; omega
theorem quote_ge (s : List UInt8) : s.length ≤ (quoteS s).length := by
  have := unq_len (unq_quote s)
  exact this
theorem show_parts : ∀ {l : List Nod}, l.all mayB = true → ∀ x ∈ l, x.p.length ≤ (showN l).length ∧ x.x.length ≤ (showN l).length
  | y :: l, h, x, hx => by
    rw [List.all_cons, Bool.and_eq_true] at h
    have e : (showN (y :: l)).length = (vline y).length + (showN l).length := by
      show (vline y ++ showN l).length = _
      rw [List.length_append]
    rcases List.mem_cons.1 hx with rfl | hx
    · have hp := mayB_p h.1
      have hq := quote_ge x.x
      rw [e]
      cases hd : x.d with
      | true =>
        have hv : (vline x).length = x.p.length + 2 := by unfold vline; rw [if_pos hd]; simp
        rw [hp.2 hd]
        exact ⟨by omega, Nat.zero_le _⟩
      | false =>
        have hv : (vline x).length = x.p.length + ((quoteS x.x).length + 2) := by unfold vline; rw [if_neg (by rw [hd]; decide)]; simp
        omega
    · have := show_parts h.2 x hx
      omega
theorem nself (l : List UInt8) : (!(l == l)) = false := by rw [beq_self_eq_true]; rfl
theorem bl_true {b : Bool} (h : b = true) : AV.d (.bl b) = AV.d (.bl true) := by rw [h]
set_option maxHeartbeats 16000000 in
theorem back_c (s : List UInt8) (l : List Nod) (hs : s.length ≤ 1000) (hl : l.length ≤ 40) (is had mb : Bool) (ou : List UInt8) (rn : List Nod)
    (a1 : FnC Tryz.prog 19 [.d (.st s)] (.d (.st (quoteS s)))) (a2 : FnC Tryz.prog 13 [.d (.st (quoteS s))] (.tup [.d (.st s), .d (.bl true)])) (a3 : FnC Tryz.prog 13 [.d (.st s)] (.tup [.d (.st ou), .d (.bl is)]))
    (b9 : is = true → FnC Tryz.prog 19 [.d (.st ou)] (.d (.st s))) (a4 : okT l → FnC Tryz.prog 15 [.d (.fs 3 (l.map encN))] (.tup [.d (.st (if mb = true then showN l else [])), .d (.bl mb)]))
    (a5 : okT l → mb = true → FnC Tryz.prog 17 [.d (.st (showN l))] (.tup [.d (.fs 3 (l.map encN)), .d (.bl true)])) (a6 : FnC Tryz.prog 17 [.d (.st [])] (.tup [.d (.fs 3 []), .d (.bl true)]))
    (a7 : FnC Tryz.prog 17 [.d (.st s)] (.tup [.d (.fs 3 (rn.map encN)), .d (.bl had)])) (b0 : had = false → rn = []) (b5 : had = true → FnC Tryz.prog 15 [.d (.fs 3 (rn.map encN))] (.tup [.d (.st s), .d (.bl true)])) (b6 : FnC Tryz.prog 15 [.d (.fs 3 [])] (.tup [.d (.st []), .d (.bl true)])) :
    FnC Tryz.prog 5 [.d (.st s), .d (.fs 3 (l.map encN))] (.d (.bl true)) := by
  have kk := knows14_ok
  have hll : (l.map encN).length = l.length := List.length_map ..
  have a9 := sameN_ok l l (by omega)
  rw [decide_eq_true rfl] at a9
  cases is <;> cases had <;> cases mb
  all_goals try have b9 := b9 rfl
  all_goals try have b5 := b5 rfl
  all_goals try (obtain rfl := b0 rfl)
  all_goals
    refine FnC.intro ti_ok Tryz.func5 rfl Tryz.ntmps5 Tryz.call5 rfl (Nat.le_of_ble_eq_true rfl) rfl ?_
    (repeat' ((conv=>whnf);first|with_reducible refine gA ?_|((with_reducible refine callE_id ?_); refine CallE.con ⟨_, kk, ?_⟩)|(with_reducible first|refine gB ?_|refine gZ (fun x hx hu=>?_)|refine gY (fun x hx=>?_)|refine gE ?_|refine Both.mk ?_ ?_|refine gS (fun h=>?_) (fun h=>?_)|refine Spl.nt ?_|refine Spl.mk (fun h=>?_) (fun h=>?_))))
    refine loop_rule ti_ok (fun k : Nat => k ≤ l.length ∧ okT (l.take k)) (fun k => ⟨[(0, .d (.st s)), (1, .d (.fs 3 (l.map encN))), (5, .d (.it .i64 k))], [], 0⟩) (fun k => l.length - k) 0 ⟨Nat.zero_le _, fun x hx => (by cases hx)⟩ ⟨⟨rfl, rfl, rfl, trivial⟩, trivial, rfl⟩ ?_
    intro k ⟨k1, k2⟩
    rcases Nat.lt_or_ge k l.length with hkl | hkl
    · obtain ⟨x, hx⟩ := lt_get hkl
      obtain ⟨p, d, t⟩ := x
      have hn : p.length ≤ 200 → t.length ≤ 500 → okT (l.take (k + 1)) := fun h1 h2 y hy => by
        rw [take_snoc hx] at hy
        rcases List.mem_append.1 hy with hy | hy
        · exact k2 y hy
        · rw [List.mem_singleton.1 hy]; exact ⟨h1, h2⟩
      (repeat' ((conv=>whnf);first|with_reducible refine gA ?_|with_reducible refine at_known hx ?_|(with_reducible first|refine gB ?_|refine gZ (fun x hx hu=>?_)|refine gY (fun x hx=>?_)|refine gE ?_|refine Both.mk ?_ ?_|refine gS (fun h=>?_) (fun h=>?_)|refine Spl.nt ?_|refine Spl.mk (fun h=>?_) (fun h=>?_))))
      · exact rfl
      · exact rfl
      · refine again (k + 1) ⟨hkl, hn (by dsimp only at *; omega) (by dsimp only at *; omega)⟩ (by dsimp only; omega) (And.intro rfl (And.intro rfl (And.intro rfl trivial))) trivial rfl
    · have hlt : l.take k = l := List.take_of_length_le hkl
      rw [hlt] at k2
      have a4 := a4 k2
      have a5 := a5 k2
      (repeat' ((conv=>whnf);first|with_reducible refine gA ?_|((with_reducible refine callE_id ?_); first | refine CallE.con ⟨_, a1, ?_⟩ | refine CallE.con ⟨_, a2, ?_⟩ | refine CallE.con ⟨_, a3, ?_⟩ | refine CallE.con ⟨_, b9, ?_⟩ | refine CallE.con ⟨_, a4, ?_⟩ | refine CallE.con ⟨_, a5 rfl, ?_⟩ | refine CallE.con ⟨_, a6, ?_⟩ | refine CallE.con ⟨_, a7, ?_⟩ | refine CallE.con ⟨_, b5, ?_⟩ | refine CallE.con ⟨_, b6, ?_⟩ | refine CallE.con ⟨_, a9, ?_⟩) | with_reducible refine Spl.yes (beq_self_eq_true _) ?_ | with_reducible refine Spl.no (nself _) ?_|(with_reducible first|refine gB ?_|refine gZ (fun x hx hu=>?_)|refine gY (fun x hx=>?_)|refine gE ?_|refine Both.mk ?_ ?_|refine gS (fun h=>?_) (fun h=>?_)|refine Spl.nt ?_|refine Spl.mk (fun h=>?_) (fun h=>?_))))
      first | exact rfl | exact bl_true (beq_self_eq_true _) | skip
end Go.Proofs.YtijdbjjkfkjihaaGreatDoor

/- The law of texts that come back, whole. Conditions: none. -/
namespace Go.Proofs.YtijdbjjkfkjihaaGreatDoor
open Go.Sy
set_option maxRecDepth 100000
set_option linter.all false
theorem some_of {α : Type} {o : Option α} (h : o.isSome = true) : ∃ x, o = some x := by
  cases o with
  | none => cases h
  | some x => exact ⟨x, rfl⟩
theorem back_ok (s : List UInt8) (l : List Nod) : FnC Tryz.prog 5 [.d (.st s), .d (.fs 3 (l.map encN))] (.d (.bl true)) := by
  have kk := knows14_ok
  have hll : (l.map encN).length = l.length := List.length_map ..
  by_cases hs : s.length ≤ 1000
  · by_cases hl : l.length ≤ 40
    · have hq := quoteS_len s
      have a2 := unquote_ok (quoteS s) (by omega)
      rw [unq_quote] at a2
      have hlen : ∀ {r}, readN s = some r → r.all mayB = true ∧ showN r = s ∧ okN r ∧ r.length ≤ 1000 := fun {r} h => by
        obtain ⟨h1, h2⟩ := read_show _ s r (Nat.le_refl _) h
        have h3 := readN_len _ s r (Nat.le_refl _) h
        refine ⟨h1, h2, fun x hx => ?_, by omega⟩
        have := show_parts h1 x hx
        rw [h2] at this
        omega
      refine back_c s l hs hl (unqO s).isSome (readN s).isSome (l.all mayB) ((unqO s).getD []) ((readN s).getD []) (quote_ok s (by omega)) a2 (unquote_ok s (by omega)) (fun h => ?_) (fun h => vshow_ok l (okT_N h) (by omega)) (fun h h2 => ?_) (vread_ok [] (by simp)) (vread_ok s (by omega)) (fun h => ?_) (fun h => ?_) (vshow_ok [] (fun x hx => (by cases hx)) (by simp))
      · obtain ⟨t, ht⟩ := some_of h
        have h1 := unq_len ht
        have h2 := quote_ok t (by omega)
        rw [quote_unq ht] at h2
        rw [ht]; exact h2
      · have h1 := showN_lenT h
        have h3 := vread_ok (showN l) (by omega)
        rw [show_read l h2] at h3
        exact h3
      · cases hr : readN s with
        | none => rfl
        | some r => rw [hr] at h; cases h
      · obtain ⟨r, hr⟩ := some_of h
        obtain ⟨h1, h2, h3, h4⟩ := hlen hr
        have h5 := vshow_ok r h3 h4
        unfold showV at h5
        rw [h1, if_pos rfl, h2] at h5
        rw [hr]; exact h5
    · refine FnC.intro ti_ok Tryz.func5 rfl Tryz.ntmps5 Tryz.call5 rfl (Nat.le_of_ble_eq_true rfl) rfl ?_
      (repeat' ((conv=>whnf);first|with_reducible refine gA ?_|((with_reducible refine callE_id ?_); refine CallE.con ⟨_, kk, ?_⟩)|(with_reducible first|refine gB ?_|refine gZ (fun x hx hu=>?_)|refine gY (fun x hx=>?_)|refine gE ?_|refine Both.mk ?_ ?_|refine gS (fun h=>?_) (fun h=>?_)|refine Spl.nt ?_|refine Spl.mk (fun h=>?_) (fun h=>?_))))
      exact rfl
  · refine FnC.intro ti_ok Tryz.func5 rfl Tryz.ntmps5 Tryz.call5 rfl (Nat.le_of_ble_eq_true rfl) rfl ?_
    (repeat' ((conv=>whnf);first|with_reducible refine gA ?_|((with_reducible refine callE_id ?_); refine CallE.con ⟨_, kk, ?_⟩)|(with_reducible first|refine gB ?_|refine gZ (fun x hx hu=>?_)|refine gY (fun x hx=>?_)|refine gE ?_|refine Both.mk ?_ ?_|refine gS (fun h=>?_) (fun h=>?_)|refine Spl.nt ?_|refine Spl.mk (fun h=>?_) (fun h=>?_))))
    exact rfl
end Go.Proofs.YtijdbjjkfkjihaaGreatDoor

/- The card of ViewBack. Conditions: none. -/
namespace Go.Proofs.YtijdbjjkfkjihaaGreatDoor
open Go.Sy Go.ChangeShapes Go.WideShapes Go.ChangeAt Go.RowKit
set_option maxRecDepth 100000
set_option linter.all false
def plainT : List Nat := [9, 4, 35, 25]
theorem closed : closedB ti plainT = true := by decide +kernel
theorem shp_st {n : Nat} {x : D} (h : Shp ti n 9 [x]) : ∃ s : List UInt8, x = .st s := by
  match n, h with
  | n + 1, h =>
    obtain ⟨s, hl, _⟩ := h
    exact ⟨s, by simpa using hl⟩
theorem shp_nod {n : Nat} {ds : List D} (h : Shp ti n 35 ds) : ∃ x : Nod, ds = encN x := by
  match n, h with
  | 1, h => obtain ⟨_, _, _, h, _⟩ := h; exact h.elim
  | n + 2, h =>
    obtain ⟨_, _, rfl, ⟨p, rfl, _⟩, _, _, rfl, ⟨d, rfl⟩, _, _, rfl, ⟨x, rfl, _⟩, rfl⟩ := h
    exact ⟨⟨p, d, x⟩, rfl⟩
theorem shp_nods {n : Nat} : ∀ {es : List (List D)}, (∀ x ∈ es, Shp ti n 35 x) → ∃ l : List Nod, es = l.map encN
  | [], _ => ⟨[], rfl⟩
  | x :: es, h => by
    obtain ⟨c, rfl⟩ := shp_nod (h x List.mem_cons_self)
    obtain ⟨l, rfl⟩ := shp_nods (fun y hy => h y (List.mem_cons_of_mem _ hy))
    exact ⟨c :: l, rfl⟩
theorem shp_list {n : Nat} {x : D} (h : Shp ti n 25 [x]) : ∃ l : List Nod, x = .fs 3 (l.map encN) := by
  match n, h with
  | n + 1, h =>
    obtain ⟨es, hl, _, he⟩ := h
    obtain ⟨l, rfl⟩ := shp_nods he
    exact ⟨l, by simpa using hl⟩
theorem own : ownKnob Tryz.prog.godebug = none := by kernel_rfl
theorem laidOut : laidOutB Tryz.prog = true := by kernel_rfl

namespace tells
/-- For every argument and every world. -/
theorem contract (H : Type) (enc : TypeId × Value → H) (W : World) (base : Nat) (args : Array Value) (ds gs : List (DataW H)) (before : List MemPlace)
    (hval : ∀ (j : Nat) t v, Tryz.f5.params[j]? = some t → args[j]? = some v → Value.okWide Tryz.prog W .any base t v)
    (hW : DataW.Whole enc Tryz.prog Tryz.f5.params.toList Rows.viewBackSpec.vars false W args.toList ds gs before) :
    Calls Tryz.prog 5 args W fun e W' => ∃ v, e = .returned v ∧ Rows.viewBackSpec.post enc Tryz.prog Tryz.f5 false true false false W args v W' := by
  have hW' := hW
  obtain ⟨p, q, hA, hV, rfl, _, _⟩ := hW
  have hA' : DataW.TrodAll enc Tryz.prog W 0 (fun _ => true) true [9, 25] args.toList ds p := hA
  obtain ⟨v0, _, d0, _, p0, _, e0, rfl, _, h0, hA1⟩ := trodAll_cons hA'
  obtain ⟨v1, _, d1, _, p1, _, rfl, rfl, _, h1, hA2⟩ := trodAll_cons hA1
  obtain ⟨rfl, rfl, _⟩ := trodAll_nil hA2
  obtain rfl : args = #[v0, v1] := by cases args; simp_all
  obtain ⟨rfl, rfl⟩ := trodVars_none hV
  obtain ⟨n0, x0, s0, a0⟩ := arg_one ti_ok closed (t := 9) (by decide) (ty := _) rfl rfl (hval 0 9 v0 rfl rfl) h0
  obtain ⟨n1, x1, s1, a1⟩ := arg_one ti_ok closed (t := 25) (by decide) (ty := _) rfl rfl (hval 1 25 v1 rfl rfl) h1
  obtain ⟨y0, rfl⟩ := shp_st s0
  obtain ⟨y1, rfl⟩ := shp_list s1
  refine (FnC.enter (back_ok y0 y1) (Tryz.call5 _ _) rfl ?_).mono ?_
  · intro j hj
    match j, hj with
    | 0, _ => exact a0
    | 1, _ => exact a1
  · rintro e W' ⟨rfl, hB⟩
    exact ⟨_, rfl, law_post hW' rfl rfl rfl rfl rfl Tryz.underlying4 laidOut (by decide +kernel) hB⟩

noncomputable def wit : Array Value := #[.string ⟨#[]⟩, .slice none 0 0]
noncomputable def laidWorld (os : Os) : World :=
  { World.holding Tryz.prog os ⟨#[], #[], []⟩ with heap := laidHeap (World.holding Tryz.prog os ⟨#[], #[], []⟩).heap [(3, Rows.laid_unicode_utf8_acceptRanges), (2, Rows.laid_unicode_utf8_first)] }
theorem laid_met (os : Os) : laidMet Tryz.prog Rows.viewBackRow.laid ((laidWorld os).forCall (fun _ _ => 0) ⟨#[], wit, []⟩).memory :=
  laidMet_of_run' 8 (by kernel_rfl) (by kernel_rfl)
theorem reads (os : Os) {H : Type} (enc : TypeId × Value → H) : ∃ places, DataW.whole enc Tryz.prog ((laidWorld os).forCall (fun _ _ => 0) ⟨#[], wit, []⟩).memory Tryz.f5.params.toList Rows.viewBackSpec.vars false wit.toList 8 = some ([.lit (.string []), .nil], [], places) :=
  ⟨[], by kernel_rfl⟩

theorem lifted (os : Os) (started : os.Started) (H : Type) (enc : TypeId × Value → H) (F : Stop.Interp) :
    ReturnsInHanded {} Tryz.checked os 5 .any ((OpenSpec.ofChange Rows.viewBackSpec).preRow enc Tryz.prog Tryz.f5 Rows.viewBackRow.domain false Rows.viewBackRow.laid) (((OpenSpec.ofChange Rows.viewBackSpec).at F).post enc Tryz.prog Tryz.f5 false true false false) := by
  obtain ⟨places, hx⟩ := reads os enc
  refine returnsInHanded_of_row (C := Tryz.checked) (s := OpenSpec.ofChange Rows.viewBackSpec) own started (by kernel_rfl) Tryz.func5
    (witness_row_at (enc := enc) (C := Tryz.checked) false (laidWorld os) wit rfl (by kernel_rfl) (by kernel_rfl) (by kernel_rfl)
      (OpenSpec.preRow_of_cond 8 hx (by kernel_rfl) (fun k hk => by cases hk) (by kernel_rfl) (laid_met os))) ?_
  intro W base args ds gs before hval hW _ _ _ _ _ _
  exact contract H enc W base args ds gs before hval hW

theorem said : Rows.ViewBackSaid :=
  OpenClaim.holds_of_cond 5 Tryz.f5 rfl rfl rfl rfl rfl rfl rfl ⟨rfl, rfl, rfl, rfl, rfl⟩ rfl rfl rfl rfl rfl (by kernel_rfl) Tryz.func5 (by kernel_rfl)
    (of_decide_eq_true (by kernel_rfl)) (by unfold Func.isWrapper; first | (rw [if_pos (by decide +kernel)]; kernel_rfl) | (rw [if_neg (by decide +kernel)]; exact ⟨rfl, rfl⟩))
    (fun os started H enc _ F => by rw [OpenClaim.pre_eq_preRow]; exact lifted os started H enc F)

theorem plain (f : FuncId) (fn : Func) (hf : Tryz.pinned.checked.prog.funcNamed "flotsam/flotsamlaw14.ViewBack" = some f) (hfn : Tryz.pinned.checked.prog.funcs[f]? = some fn) :
    false = Tryz.pinned.checked.prog.looks [] ∧ ∀ (j : Nat) t, fn.params[j]? = some t → Tryz.pinned.checked.prog.wantsStandIn t = false := by
  obtain rfl : f = 5 := Option.some.inj ((show Tryz.prog.funcNamed "flotsam/flotsamlaw14.ViewBack" = some 5 by kernel_rfl).symm.trans hf) |>.symm
  obtain rfl : fn = Tryz.f5 := (Option.some.inj (Tryz.func5.symm.trans hfn)).symm
  refine ⟨by kernel_rfl, fun j t ht => ?_⟩
  have hall : ∀ t ∈ Tryz.f5.params, Tryz.prog.wantsStandIn t = false := by decide +kernel
  exact hall t (Array.mem_of_getElem? ht)

/-- The card. -/
theorem card : Rows.ViewBackCardSaid :=
  Claim7.holds_tied_plain_at .later [] _ _ _ _ said (fun _ h => by cases h) (by kernel_rfl) (fun _ h => by cases h) viewBack_row_tie rfl ⟨rfl, rfl⟩ (by kernel_rfl) rfl plain (by kernel_rfl)
end tells
end Go.Proofs.YtijdbjjkfkjihaaGreatDoor
