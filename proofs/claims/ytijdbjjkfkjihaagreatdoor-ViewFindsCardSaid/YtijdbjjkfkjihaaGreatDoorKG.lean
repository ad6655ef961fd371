/- Contracts of the functions that the law reaches, and the law. Conditions: none. -/
import Derived.Test.YtijdbjjkfkjihaaGreatDoorKD
import Derived.Test.YtijdbjjkfkjihaaGreatDoorKA
import Derived.Test.YtijdbjjkfkjihaaGreatDoorKE
import Derived.Test.YtijdbjjkfkjihaaGreatDoorKF
import Derived.Test.YtijdbjjkfkjihaaGreatDoorSD
set_option linter.all false
/- What is at a path. Conditions: none. -/
namespace Go.Proofs.YtijdbjjkfkjihaaGreatDoor
open Go.Sy
set_option maxRecDepth 100000
set_option linter.all false
def stepV (f : Int → List UInt8) (n : Int) (s : List UInt8) : Int × Int := if (inoAt f n).k = 2 then (match fndK f n s with | none => (0, 4) | some k => ((entAt f (k : Nat)).t, 0)) else (0, 6)
def pairA (x : Int × Int) : AV := .tup [.d (.it .i64 x.1), .d (.it .i64 x.2)]
theorem step_ok (d : Option Dk) (hd : DkOK d) (n : Int) (s : List UInt8) : FnC Tryz.prog 50 [.d (encD d), .d (.it .i64 n), .d (.st s)] (pairA (stepV (rdS d) n s)) := by
  have hi := inode_ok d hd n
  have hf := find_ok d hd n s
  unfold stepV
  by_cases h2 : (inoAt (rdS d) n).k = 2
  · rw [if_pos h2]
    cases hk : fndK (rdS d) n s with
    | none =>
      rw [hk, fndV] at hf
      refine FnC.intro ti_ok Tryz.func50 rfl Tryz.ntmps50 Tryz.call50 rfl (Nat.le_of_ble_eq_true rfl) rfl ?_
      (repeat' ((conv=>whnf);first|with_reducible refine gA ?_|((with_reducible refine callE_id ?_); first | (refine CallE.con ⟨_, hi, ?_⟩) | (refine CallE.con ⟨_, hf, ?_⟩))|(with_reducible first|refine gB ?_|refine gZ (fun x hx hu=>?_)|refine gY (fun x hx=>?_)|refine gE ?_|refine Both.mk ?_ ?_|refine gS (fun h=>?_) (fun h=>?_)|refine Spl.nt ?_|refine Spl.mk (fun h=>?_) (fun h=>?_))))
      rfl
    | some k =>
      rw [hk, fndV] at hf
      have he := entry_ok d hd (k : Nat)
      refine FnC.intro ti_ok Tryz.func50 rfl Tryz.ntmps50 Tryz.call50 rfl (Nat.le_of_ble_eq_true rfl) rfl ?_
      (repeat' ((conv=>whnf);first|with_reducible refine gA ?_|((with_reducible refine callE_id ?_); first | (refine CallE.con ⟨_, hi, ?_⟩) | (refine CallE.con ⟨_, hf, ?_⟩) | (refine CallE.con ⟨_, he, ?_⟩))|(with_reducible first|refine gB ?_|refine gZ (fun x hx hu=>?_)|refine gY (fun x hx=>?_)|refine gE ?_|refine Both.mk ?_ ?_|refine gS (fun h=>?_) (fun h=>?_)|refine Spl.nt ?_|refine Spl.mk (fun h=>?_) (fun h=>?_))))
      rfl
  · rw [if_neg h2]
    refine FnC.intro ti_ok Tryz.func50 rfl Tryz.ntmps50 Tryz.call50 rfl (Nat.le_of_ble_eq_true rfl) rfl ?_
    (repeat' ((conv=>whnf);first|with_reducible refine gA ?_|((with_reducible refine callE_id ?_); (refine CallE.con ⟨_, hi, ?_⟩))|(with_reducible first|refine gB ?_|refine gZ (fun x hx hu=>?_)|refine gY (fun x hx=>?_)|refine gE ?_|refine Both.mk ?_ ?_|refine gS (fun h=>?_) (fun h=>?_)|refine Spl.nt ?_|refine Spl.mk (fun h=>?_) (fun h=>?_))))
    rfl
def lkp (f : Int → List UInt8) : List (List UInt8) → Int → Int × Int
  | [], n => (n, 0)
  | s :: t, n => if (stepV f n s).2 = 0 then lkp f t (stepV f n s).1 else (0, (stepV f n s).2)
def lookP (f : Int → List UInt8) (p : List UInt8) : Int × Int := if (splitP p).2 = 0 then lkp f (splitP p).1 0 else (0, (splitP p).2)
/-- The way so far: no error yet. -/
def lkI (f : Int → List UInt8) (ns : List (List UInt8)) (r : Int × Int) (x : Nat × Int) : Prop := x.1 ≤ ns.length ∧ lkp f (ns.drop x.1) x.2 = r
theorem splitP_nil {p : List UInt8} (h : ¬ (splitP p).2 = 0) : (splitP p).1 = [] := by
  unfold splitP at h ⊢
  split
  · rfl
  · rename_i h1
    rw [if_neg h1] at h
    cases p with
    | nil => rfl
    | cons b r =>
      simp only at h ⊢
      split
      · rename_i h2
        rw [if_pos h2] at h
        split
        · rename_i h3; rw [if_pos h3] at h; exact (h rfl).elim
        · rfl
      · rfl
theorem splitP_len (p : List UInt8) : (splitP p).1.length ≤ 4 := by
  unfold splitP
  split
  · exact Nat.zero_le _
  · split
    · exact Nat.zero_le _
    · split
      · split
        · rename_i h3; exact h3.1
        · exact Nat.zero_le _
      · exact Nat.zero_le _
theorem lookup_ok (d : Option Dk) (hd : DkOK d) (p : List UInt8) (hp : p.length ≤ 100000) : FnC Tryz.prog 22 [.d (encD d), .d (.st p)] (pairA (lookP (rdS d) p)) := by
  have hs := pathSplit_ok p hp
  have hst := fun n s => step_ok d hd n s
  generalize hR : lookP (rdS d) p = R
  unfold lookP at hR
  have hN : (splitP p).1.map stL = (splitP p).1.map stL := rfl
  unfold tupP at hs
  by_cases he : (splitP p).2 = 0
  · rw [if_pos he] at hR
    rw [he] at hs
    have hnb := splitP_len p
    generalize hns : (splitP p).1 = ns at hs hR hnb
    have hnl : (ns.map stL).length = ns.length := List.length_map ..
    refine FnC.intro ti_ok Tryz.func22 rfl Tryz.ntmps22 Tryz.call22 rfl (Nat.le_of_ble_eq_true rfl) rfl ?_
    (repeat' ((conv=>whnf);first|with_reducible refine gA ?_|((with_reducible refine callE_id ?_); (refine CallE.con ⟨_, hs, ?_⟩))|(with_reducible first|refine gB ?_|refine gZ (fun x hx hu=>?_)|refine gY (fun x hx=>?_)|refine gE ?_|refine Both.mk ?_ ?_|refine gS (fun h=>?_) (fun h=>?_)|refine Spl.nt ?_|refine Spl.mk (fun h=>?_) (fun h=>?_))))
    conv => whnf
    refine loop_rule ti_ok (lkI (rdS d) ns R) (fun x => ⟨[(0, .d (encD d)), (7, .d (.it .i64 0)), (8, .d (.it .i64 x.2)), (16, .d (.fs 1 (ns.map stL))), (17, .d (.it .i64 (ns.length : Nat))), (18, .d (.it .i64 (x.1 : Nat)))], [], 0⟩) (fun x => ns.length - x.1) (0, 0) ⟨Nat.zero_le _, by rw [List.drop_zero]; exact hR⟩ ⟨And.intro rfl (And.intro rfl (And.intro rfl (And.intro rfl (And.intro (it_eq (by rw [hnl])) (And.intro rfl trivial))))), trivial, rfl⟩ ?_
    intro x hx
    have x1 := hx.1
    have x2 := hx.2
    by_cases hk : x.1 < ns.length
    · have hsx := hst x.2 ns[x.1]
      have hget : ns[x.1]? = some ns[x.1] := List.getElem?_eq_getElem hk
      rw [List.drop_eq_getElem_cons hk, lkp] at x2
      unfold pairA at hsx
      by_cases hz : (stepV (rdS d) x.2 ns[x.1]).2 = 0
      · rw [if_pos hz] at x2
        rw [hz] at hsx
        (repeat' ((conv=>whnf);first|with_reducible refine gA ?_|((with_reducible refine callE_id ?_); (refine CallE.con ⟨_, hsx, ?_⟩)) | with_reducible refine at_hm hget ?_|(with_reducible first|refine gB ?_|refine gZ (fun x hx hu=>?_)|refine gY (fun x hx=>?_)|refine gE ?_|refine Both.mk ?_ ?_|refine gS (fun h=>?_) (fun h=>?_)|refine Spl.nt ?_|refine Spl.mk (fun h=>?_) (fun h=>?_))))
        refine again (x.1 + 1, (stepV (rdS d) x.2 ns[x.1]).1) ⟨hk, x2⟩ (by dsimp only; omega) (And.intro rfl (And.intro rfl (And.intro rfl (And.intro rfl (And.intro rfl (And.intro (it_eq (by dsimp only; omega)) trivial)))))) trivial rfl
      · rw [if_neg hz] at x2
        (repeat' ((conv=>whnf);first|with_reducible refine gA ?_|((with_reducible refine callE_id ?_); (refine CallE.con ⟨_, hsx, ?_⟩)) | with_reducible refine at_hm hget ?_|(with_reducible first|refine gB ?_|refine gZ (fun x hx hu=>?_)|refine gY (fun x hx=>?_)|refine gE ?_|refine Both.mk ?_ ?_|refine gS (fun h=>?_) (fun h=>?_)|refine Spl.nt ?_|refine Spl.mk (fun h=>?_) (fun h=>?_))))
        all_goals first | (exact congrArg pairA x2) | (exfalso; exact hz (by assumption))
    · have hd0 : ns.drop x.1 = [] := List.drop_eq_nil_of_le (by omega)
      rw [hd0, lkp] at x2
      (repeat' ((conv=>whnf);first|with_reducible refine gA ?_|(with_reducible first|refine gB ?_|refine gZ (fun x hx hu=>?_)|refine gY (fun x hx=>?_)|refine gE ?_|refine Both.mk ?_ ?_|refine gS (fun h=>?_) (fun h=>?_)|refine Spl.nt ?_|refine Spl.mk (fun h=>?_) (fun h=>?_))))
      exact congrArg pairA x2
  · rw [if_neg he] at hR
    rw [splitP_nil he] at hs
    refine FnC.intro ti_ok Tryz.func22 rfl Tryz.ntmps22 Tryz.call22 rfl (Nat.le_of_ble_eq_true rfl) rfl ?_
    (repeat' ((conv=>whnf);first|with_reducible refine gA ?_|((with_reducible refine callE_id ?_); (refine CallE.con ⟨_, hs, ?_⟩)) | with_reducible refine LoopS.unroll ti_ok 1 ?_|(with_reducible first|refine gB ?_|refine gZ (fun x hx hu=>?_)|refine gY (fun x hx=>?_)|refine gE ?_|refine Both.mk ?_ ?_|refine gS (fun h=>?_) (fun h=>?_)|refine Spl.nt ?_|refine Spl.mk (fun h=>?_) (fun h=>?_))))
    exact congrArg pairA hR
end Go.Proofs.YtijdbjjkfkjihaaGreatDoor

/- A disk and an image with writes over it read alike. Conditions: none. -/
namespace Go.Proofs.YtijdbjjkfkjihaaGreatDoor
open Go.Sy
set_option maxRecDepth 100000
set_option linter.all false
theorem dsk_OK {m : List (List UInt8)} {ws : List Wr} (hm : ImOK m) (hw : WsOK ws) (hwl : ws.length ≤ 1000) : DkOK (dskOf m ws) := by
  unfold dskOf
  split
  · rename_i h
    refine ⟨hm, fun w hw' => ?_, h.2, ?_⟩
    · have hw' : w ∈ (ws.filter (okW m.length)).map fun w => { w with e := 0 } := hw'
      obtain ⟨x, hx, rfl⟩ := List.mem_map.1 hw'
      exact hw x (List.mem_filter.1 hx).1
    · show ((ws.filter (okW m.length)).map _).length ≤ 100000
      rw [List.length_map]
      have := List.length_filter_le (okW m.length) ws
      omega
  · trivial
end Go.Proofs.YtijdbjjkfkjihaaGreatDoor

/- The law. Conditions: none. -/
namespace Go.Proofs.YtijdbjjkfkjihaaGreatDoor
open Go.Sy
set_option maxRecDepth 100000
set_option linter.all false
def folderS : List UInt8 := [2, 0, 0, 0, 0, 0, 0, 0, 0, 0, 0, 0, 0, 0, 0, 0, 0, 0, 0, 0, 0, 0, 0, 0, 0, 0, 0, 0, 0, 0, 0, 0]
def emptyM : List (List UInt8) := superS :: folderS :: List.replicate 63 zeroS
def k1S : List UInt8 := [1, 0, 2, 1, 0, 0, 0, 0, 0, 0, 0, 0, 0, 0, 0, 0, 97, 0, 0, 0, 0, 0, 0, 0, 0, 0, 0, 0, 0, 0, 0, 0]
def k2S : List UInt8 := [1, 0, 0, 0, 0, 0, 0, 0, 0, 0, 0, 0, 0, 0, 0, 0, 0, 0, 0, 0, 0, 0, 0, 0, 0, 0, 0, 0, 0, 0, 0, 0]
def kW : List Wr := [⟨17, k1S, 0, 0, 0⟩, ⟨3, k2S, 0, 0, 0⟩]
theorem em_ok : ImOK emptyM := by
  intro s hs
  simp only [emptyM, List.mem_cons, List.mem_replicate] at hs
  rcases hs with rfl | rfl | ⟨_, rfl⟩ <;> rfl
theorem empty_ok : FnC Tryz.prog 27 [] (.d (encM emptyM)) := by
  have hs := refSuper_ok
  refine FnC.intro ti_ok Tryz.func27 rfl Tryz.ntmps27 Tryz.call27 rfl (Nat.le_of_ble_eq_true rfl) rfl ?_
  (repeat' ((conv=>whnf);first|with_reducible refine gA ?_|((with_reducible refine callE_id ?_); (refine CallE.con ⟨_, hs, ?_⟩))|(with_reducible first|refine gB ?_|refine gZ (fun x hx hu=>?_)|refine gY (fun x hx=>?_)|refine gE ?_|refine Both.mk ?_ ?_|refine gS (fun h=>?_) (fun h=>?_)|refine Spl.nt ?_|refine Spl.mk (fun h=>?_) (fun h=>?_))))
  refine ⟨emptyM.map encS, ⟨?_, ?_, ?_, ?_⟩, ?_⟩
  · exact Nat.le_of_ble_eq_true (by kernel_rfl)
  · kernel_rfl
  · intro x hx
    obtain ⟨s, hs, rfl⟩ := List.mem_map.1 hx
    rw [encS_len]; exact em_ok s hs
  · kernel_rfl
  · rfl
def kD : Option Dk := dskOf emptyM kW
theorem f1 : lookP (rdS kD) [47, 97] = (2, 0) := by decide +kernel
theorem f2 : fndK (rdS kD) 0 [97] = some 0 := by decide +kernel
theorem f3 : lookP (rdS kD) [47, 98] = (0, 4) := by decide +kernel
theorem f4 : mntP (imgD kD) := by decide +kernel
theorem f5 : nmsK (rdS kD) 0 24 = [[97]] := by decide +kernel
theorem f6 : takP (rdS kD) 2 := by decide +kernel
theorem f8 : (entAt (rdS kD) 0).n = [97] := by decide +kernel
theorem f9 : (nms (rdS kD) 0).length = 1 := by
  unfold nms
  rw [f5]
  have h : sortS [[97]] = [[97]] := by simp [sortS]
  rw [h]
  decide +kernel
end Go.Proofs.YtijdbjjkfkjihaaGreatDoor

/- The law, whole. Conditions: none. -/
namespace Go.Proofs.YtijdbjjkfkjihaaGreatDoor
open Go.Sy
set_option maxRecDepth 100000
set_option linter.all false
end Go.Proofs.YtijdbjjkfkjihaaGreatDoor

/- The tree of a disk, whole. Conditions: none. -/
namespace Go.Proofs.YtijdbjjkfkjihaaGreatDoor
open Go.Sy
set_option maxRecDepth 100000
set_option linter.all false
theorem Wk.nilD {N : Nat} {σ : S} (n a b : Nat) (hn : Go.Sy.look n σ.mem = some (.cells 1 [.d (.fs a [])])) : Wk N σ ⟨σ.sl, (n, .cells 1 [.d (.fs b [])]) :: σ.mem, σ.nx⟩ := by
  refine ⟨fun κ g w0 w hst => ⟨g, ?_⟩⟩
  have on : ∀ k, On g ((n, .cells 1 [.d (.fs b [])]) :: σ.mem) k → On g σ.mem k := fun k h => by
    unfold On at h ⊢
    rw [look_cons] at h
    by_cases hk : k = n
    · subst hk; rw [hn]; trivial
    · rw [if_neg hk] at h; exact h
  refine ⟨hst.size, hst.defers, hst.sl, ⟨hst.inv.frz, fun k ob hk => ?_, fun k m hkm h h' => hst.inv.inj k m hkm (on k h) (on m h'), hst.inv.size, hst.inv.pres, fun k h => hst.inv.own k (on k h), hst.inv.f0, hst.inv.fnew, hst.inv.os, hst.inv.tape, hst.inv.output, hst.inv.dfr⟩, ?_⟩
  · rw [look_cons] at hk
    by_cases hkn : k = n
    · subst hkn
      rw [if_pos rfl] at hk
      obtain rfl := Option.some.inj hk
      obtain ⟨arr, T, e1, e2, e3, e4, e5, e6⟩ := hst.inv.obs k _ hn
      refine ⟨arr, T, e1, e2, rfl, fun j hj => ?_, fun j hj => ?_, e6⟩
      · obtain rfl : j = 0 := by simp at hj; omega
        rfl
      · obtain rfl : j = 0 := by simp at hj; omega
        have h := e5 0 (by simp)
        simp only [List.getElem_cons_zero] at h ⊢
        generalize arr.getD 0 undef = q at h
        cases h with | d _ _ hd => ?_
        cases hd with
        | fs0 => exact .d _ _ (.fs0 _ _ _)
        | fs _ _ _ _ _ _ _ hl =>
          obtain rfl : 0 = _ := hl
          exact .d _ _ (.fs0 _ _ _)
    · rw [if_neg hkn] at hk; exact hst.inv.obs k ob hk
  · have := S.ok_iff.1 hst.ok
    refine S.ok_iff.2 ⟨this.1, fun p hp => ?_⟩
    rcases List.mem_cons.1 hp with rfl | hp
    · exact ⟨(S.ok_mem hst.ok hn).1, rfl⟩
    · exact this.2 p hp
theorem FnC.res {P : Program} {f : Nat} {args : List AV} {r r' : AV} (h : FnC P f args r) (hp : r'.isP = true) (hc : ∀ g v, AVR g r v → AVR g r' v) : FnC P f args r' := ⟨hp, fun g w vs a b c => by
  rcases h.run g w vs a b c with ⟨h1, h2⟩ | ⟨v, w', h1, v', g', h2, h3, h4⟩
  · exact .inl ⟨h1, h2.mono fun e w' ⟨v, g', q1, q2, q3⟩ => ⟨v, g', q1, hc _ _ q2, q3⟩⟩
  · exact .inr ⟨v, w', h1, v', g', h2, hc _ _ h3, h4⟩⟩
/-- An empty slice is one of any element's size. -/
theorem nil_sz {g : Gh} {a b : Nat} {x : D} {v : Value} (h : AVR g (.tup [.d (.fs a []), .d x]) v) : AVR g (.tup [.d (.fs b []), .d x]) v := by
  cases h with | tup _ vs h1 h2 => ?_
  refine .tup _ _ h1 fun j hj => ?_
  have := h2 j hj
  match j, hj with
  | 0, hj =>
    simp only [List.getElem_cons_zero] at this ⊢
    generalize vs.getD 0 undef = q at this
    cases this with | d _ _ hd => ?_
    cases hd with
    | fs0 => exact .d _ _ (.fs0 _ _ _)
    | fs _ _ _ _ _ _ _ hl =>
      obtain rfl : 0 = _ := hl
      exact .d _ _ (.fs0 _ _ _)
  | 1, hj => exact this
theorem topT {L : List Nod} (h : L.length ≤ 64) : AV.tup [.d (.fs 3 (L.map encN)), .d (.bl true)] = AV.tup [.d (.fs 3 ((L.take 64).map encN)), .d (.bl (decide (L.length ≤ 64)))] := by rw [List.take_of_length_le h, decide_eq_true h]
theorem topF {L : List Nod} (h : ¬ L.length ≤ 64) : AV.tup [.d (.fs 3 ((L.take 64).map encN)), .d (.bl false)] = AV.tup [.d (.fs 3 ((L.take 64).map encN)), .d (.bl (decide (L.length ≤ 64)))] := by rw [decide_eq_false h]
set_option maxHeartbeats 8000000 in
theorem tree_ok (d : Option Dk) (hd : DkOK d) : FnC Tryz.prog 8 [.d (encD d)] (tupN (treeV (rdS d))) := by
  have hi := inode_ok d hd 0
  unfold treeV
  by_cases hk : (inoAt (rdS d) 0).k = 2
  · rw [if_pos hk]
    unfold topV tupN
    refine FnC.intro ti_ok Tryz.func8 rfl Tryz.ntmps8 Tryz.call8 rfl (Nat.le_of_ble_eq_true rfl) rfl ?_
    (repeat' ((conv=>whnf);first|with_reducible refine gA ?_|((with_reducible refine callE_id ?_); first | refine CallE.con ⟨_, hi, ?_⟩ | refine CallE.inl ?_) | with_reducible refine CallI.inl ti_ok i28 rfl ?_|(with_reducible first|refine gB ?_|refine gZ (fun x hx hu=>?_)|refine gY (fun x hx=>?_)|refine gE ?_|refine Both.mk ?_ ?_|refine gS (fun h=>?_) (fun h=>?_)|refine Spl.nt ?_|refine Spl.mk (fun h=>?_) (fun h=>?_))))
    conv => whnf
    refine RangeS.wk (Wk.trans (Wk.trans (Wk.nlTs 2 0 1 3 35 (by with_unfolding_all exact rfl) (by with_unfolding_all exact rfl)) (Wk.nilD 6 0 1 (by with_unfolding_all exact rfl))) (Wk.enF (τ := ⟨[(2, .ptr 0 0), (3, .ptr 1 0), (4, .ptr 2 0), (11, clo 4 5 6)], c3 d 0 (.fs 1 (vS [])) 4 5 6 ++ tm0 [], 8⟩) (by (repeat (first | exact trivial | refine And.intro rfl ?_))) (by (repeat (first | exact trivial | refine And.intro (obw_eq rfl (by with_unfolding_all exact rfl)) ?_ | refine And.intro (obw_fr (by with_unfolding_all exact rfl) (by (repeat (first | exact trivial | refine And.intro (by with_unfolding_all exact rfl) ?_)))) ?_))) rfl)) ?_
    refine RangeS.introW ti_ok i60 rfl rfl (lvl0 d hd 0 [] rfl (fun s hs => by cases hs) [] (Nat.zero_le _) [] rfl _ ?_ ?_ ?_)
    · intro h2
      (repeat' ((conv=>whnf);first|with_reducible refine gA ?_|(with_reducible first|refine gB ?_|refine gZ (fun x hx hu=>?_)|refine gY (fun x hx=>?_)|refine gE ?_|refine Both.mk ?_ ?_|refine gS (fun h=>?_) (fun h=>?_)|refine Spl.nt ?_|refine Spl.mk (fun h=>?_) (fun h=>?_))))
      exact topT h2
    · intro h2
      (repeat' ((conv=>whnf);first|with_reducible refine gA ?_|(with_reducible first|refine gB ?_|refine gZ (fun x hx hu=>?_)|refine gY (fun x hx=>?_)|refine gE ?_|refine Both.mk ?_ ?_|refine gS (fun h=>?_) (fun h=>?_)|refine Spl.nt ?_|refine Spl.mk (fun h=>?_) (fun h=>?_))))
      exact topT h2
    · intro h2
      (repeat' ((conv=>whnf);first|with_reducible refine gA ?_|(with_reducible first|refine gB ?_|refine gZ (fun x hx hu=>?_)|refine gY (fun x hx=>?_)|refine gE ?_|refine Both.mk ?_ ?_|refine gS (fun h=>?_) (fun h=>?_)|refine Spl.nt ?_|refine Spl.mk (fun h=>?_) (fun h=>?_))))
      exact topF h2
  · rw [if_neg hk]
    refine FnC.res (r := .tup [.d (.fs 0 []), .d (.bl true)]) ?_ rfl fun g v => nil_sz
    refine FnC.intro ti_ok Tryz.func8 rfl Tryz.ntmps8 Tryz.call8 rfl (Nat.le_of_ble_eq_true rfl) rfl ?_
    (repeat' ((conv=>whnf);first|with_reducible refine gA ?_|((with_reducible refine callE_id ?_); refine CallE.con ⟨_, hi, ?_⟩)|(with_reducible first|refine gB ?_|refine gZ (fun x hx hu=>?_)|refine gY (fun x hx=>?_)|refine gE ?_|refine Both.mk ?_ ?_|refine gS (fun h=>?_) (fun h=>?_)|refine Spl.nt ?_|refine Spl.mk (fun h=>?_) (fun h=>?_))))
    exact rfl
end Go.Proofs.YtijdbjjkfkjihaaGreatDoor

/- Lists of nodes alike; what is known. Conditions: none. -/
namespace Go.Proofs.YtijdbjjkfkjihaaGreatDoor
open Go.Sy
set_option maxRecDepth 100000
set_option linter.all false
def k3S : List UInt8 := [2, 0, 0, 0, 0, 0, 0, 0, 0, 0, 0, 0, 0, 0, 0, 0, 0, 0, 0, 0, 0, 0, 0, 0, 0, 0, 0, 0, 0, 0, 0, 0]
def kV : List Wr := [⟨17, k1S, 0, 0, 0⟩, ⟨3, k3S, 0, 0, 0⟩]
theorem kv_ok : WsOK kV := by
  intro w hw
  simp only [kV, List.mem_cons, List.not_mem_nil, or_false] at hw
  rcases hw with rfl | rfl <;> rfl
def kDV : Option Dk := dskOf emptyM kV
theorem kdv_OK : DkOK kDV := dsk_OK em_ok kv_ok (by decide)
theorem v1 : nmsK (rdS kDV) 0 24 = [[97]] := by decide +kernel
theorem v2 : nmsK (rdS kDV) 2 24 = [] := by decide +kernel
theorem v3 : mOf (rdS kDV) 0 [97] = 2 := by decide +kernel
theorem v4 : (inoAt (rdS kDV) 2).k = 2 := by decide +kernel
theorem v5 : dataV (rdS kDV) (inoAt (rdS kDV) 2) = [] := by decide +kernel
theorem v6 : (inoAt (rdS kDV) 0).k = 2 := by decide +kernel
theorem v7 : nms (rdS kDV) 0 = [[97]] := by
  unfold nms sortS
  rw [v1, List.mergeSort_singleton]; rfl
theorem v8 : nms (rdS kDV) 2 = [] := by
  unfold nms sortS
  rw [v2, List.mergeSort_nil]; rfl
theorem v9 : treeV (rdS kDV) = ([⟨[47, 97], true, []⟩], true) := by
  have e : subV (rdS kDV) 4 0 [] = [⟨[47, 97], true, []⟩] := by
    rw [subV, v7]
    show nodV (rdS kDV) [] 0 [97] :: ((if (inoAt (rdS kDV) (mOf (rdS kDV) 0 [97])).k = 2 then subV (rdS kDV) 3 (mOf (rdS kDV) 0 [97]) ([] ++ [[97]]) else []) ++ []) = _
    rw [v3, if_pos v4, subV, v8]
    show [nodV (rdS kDV) [] 0 [97]] = _
    unfold nodV
    rw [v3, v4, v5]; rfl
  unfold treeV topV
  rw [if_pos v6, e]; rfl
theorem num14_ok (n : Int) : FnC Tryz.prog 24 [.d (.it .i64 n)] (.d (.it .i64 n)) := by
  refine FnC.intro ti_ok Tryz.func24 rfl Tryz.ntmps24 Tryz.call24 rfl (Nat.le_of_ble_eq_true rfl) rfl ?_
  (repeat' ((conv=>whnf);first|with_reducible refine gA ?_|(with_reducible first|refine gB ?_|refine gZ (fun x hx hu=>?_)|refine gY (fun x hx=>?_)|refine gE ?_|refine Both.mk ?_ ?_|refine gS (fun h=>?_) (fun h=>?_)|refine Spl.nt ?_|refine Spl.mk (fun h=>?_) (fun h=>?_))))
  rfl
theorem knows14_ok : FnC Tryz.prog 7 [] (.d (.bl true)) := by
  have h1 : FnC Tryz.prog 9 [.d (encM emptyM), .d (.fs 36 (kV.map encW))] (.d (encD kDV)) := disk_ok emptyM em_ok kV kv_ok (by decide) (by decide)
  have h2 := tree_ok kDV kdv_OK
  rw [v9] at h2
  have h3 : FnC Tryz.prog 15 [.d (.fs 3 [[.st [47, 98], .bl false, .st [120, 7]]])] (.tup [.d (.st [47, 98, 32, 34, 120, 92, 48, 55, 34, 10]), .d (.bl true)]) := by
    have := vshow_ok [⟨[47, 98], false, [120, 7]⟩] (fun x hx => by rw [List.mem_singleton.1 hx]; decide) (by decide)
    rw [showV, show List.all [(⟨[47, 98], false, [120, 7]⟩ : Nod)] mayB = true by decide +kernel, if_pos rfl, show showN [⟨[47, 98], false, [120, 7]⟩] = [47, 98, 32, 34, 120, 92, 48, 55, 34, 10] by decide +kernel] at this
    exact this
  generalize kDV = dk at *
  refine FnC.intro ti_ok Tryz.func7 rfl Tryz.ntmps7 Tryz.call7 rfl (Nat.le_of_ble_eq_true rfl) rfl ?_
  (repeat' ((conv=>whnf);first|with_reducible refine gA ?_|((with_reducible refine callE_id ?_); first | refine CallE.con ⟨_, empty_ok, ?_⟩ | refine CallE.con ⟨_, h1, ?_⟩ | refine CallE.con ⟨_, h2, ?_⟩ | refine CallE.con ⟨_, h3, ?_⟩)|(with_reducible first|refine gB ?_|refine gZ (fun x hx hu=>?_)|refine gY (fun x hx=>?_)|refine gE ?_|refine Both.mk ?_ ?_|refine gS (fun h=>?_) (fun h=>?_)|refine Spl.nt ?_|refine Spl.mk (fun h=>?_) (fun h=>?_))))
  exact rfl
end Go.Proofs.YtijdbjjkfkjihaaGreatDoor

/- The document's names of a folder. Conditions: none. -/
namespace Go.Proofs.YtijdbjjkfkjihaaGreatDoor
open Go.Sy
set_option maxRecDepth 100000
set_option linter.all false
end Go.Proofs.YtijdbjjkfkjihaaGreatDoor

/- The document's list of names. Conditions: none. -/
namespace Go.Proofs.YtijdbjjkfkjihaaGreatDoor
open Go.Sy
set_option maxRecDepth 100000
set_option linter.all false
end Go.Proofs.YtijdbjjkfkjihaaGreatDoor

/- The bytes of a file, by the document's answer. Conditions: none. -/
namespace Go.Proofs.YtijdbjjkfkjihaaGreatDoor
open Go.Sy
set_option maxRecDepth 100000
set_option linter.all false
end Go.Proofs.YtijdbjjkfkjihaaGreatDoor

/- The nodes of a folder, by the document's answer. Conditions: none. -/
namespace Go.Proofs.YtijdbjjkfkjihaaGreatDoor
open Go.Sy
set_option maxRecDepth 100000
set_option linter.all false
end Go.Proofs.YtijdbjjkfkjihaaGreatDoor

/- The tree of an image, by the document's answer. Conditions: none. -/
namespace Go.Proofs.YtijdbjjkfkjihaaGreatDoor
open Go.Sy
set_option maxRecDepth 100000
set_option linter.all false
end Go.Proofs.YtijdbjjkfkjihaaGreatDoor

/- The law of trees. Conditions: none. -/
namespace Go.Proofs.YtijdbjjkfkjihaaGreatDoor
open Go.Sy
set_option maxRecDepth 100000
set_option linter.all false
section
variable {f g : Int → List UInt8} (h : ∀ n : Int, 0 ≤ n → f n = g n)
include h
end
end Go.Proofs.YtijdbjjkfkjihaaGreatDoor
