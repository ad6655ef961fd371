/- Contracts of the functions that the law reaches, and the law. Conditions: none. -/
import Derived.Test.YtajeadkdacgldaaGreatDoorKD
import Derived.Test.YtajeadkdacgldaaGreatDoorSD
set_option linter.all false
/- What is safe on a disk; files and folders on it. Conditions: none. -/
namespace Go.Proofs.YtajeadkdacgldaaGreatDoor
open Go.Sy
set_option maxRecDepth 100000
set_option linter.all false
def safV (d : Option Dk) : List (List UInt8) := match d with
  | none => []
  | some dk => dk.safe
theorem safe_ok (d : Option Dk) (hd : DkOK d) : FnC Tryz.prog 46 [.d (encD d)] (.d (.fs 32 ((safV d).map encS))) := by
  have hn := none_ok d
  cases d with
  | none =>
    have hn : FnC Tryz.prog 65 [.d (.ot (.pointer none))] (.d (.bl true)) := hn
    refine FnC.intro ti_ok Tryz.func46 rfl Tryz.ntmps46 Tryz.call46 rfl (Nat.le_of_ble_eq_true rfl) rfl ?_
    (repeat' ((conv=>whnf);first|with_reducible refine gA ?_|((with_reducible refine callE_id ?_); (refine CallE.con ⟨_, hn, ?_⟩))|(with_reducible first|refine gB ?_|refine gZ (fun x hx hu=>?_)|refine gY (fun x hx=>?_)|refine gE ?_|refine Both.mk ?_ ?_|refine gS (fun h=>?_) (fun h=>?_)|refine Spl.nt ?_|refine Spl.mk (fun h=>?_) (fun h=>?_))))
    rfl
  | some d =>
    obtain ⟨nx, safe, wait, log, ep⟩ := d
    have hlen : safe.length ≤ 65 := hd.2.2.1
    by_cases h0 : safe = []
    · subst h0
      have hn : FnC Tryz.prog 65 [.d (.fp 6 (encDk ⟨nx, [], wait, log, ep⟩))] (.d (.bl true)) := hn
      refine FnC.intro ti_ok Tryz.func46 rfl Tryz.ntmps46 Tryz.call46 rfl (Nat.le_of_ble_eq_true rfl) rfl ?_
      (repeat' ((conv=>whnf);first|with_reducible refine gA ?_|((with_reducible refine callE_id ?_); (refine CallE.con ⟨_, hn, ?_⟩))|(with_reducible first|refine gB ?_|refine gZ (fun x hx hu=>?_)|refine gY (fun x hx=>?_)|refine gE ?_|refine Both.mk ?_ ?_|refine gS (fun h=>?_) (fun h=>?_)|refine Spl.nt ?_|refine Spl.mk (fun h=>?_) (fun h=>?_))))
      rfl
    · have hne : (safe.map encS).isEmpty = false := by
        cases safe with
        | nil => exact absurd rfl h0
        | cons => rfl
      have hnb : noneB (some ⟨nx, safe, wait, log, ep⟩) = false := decide_eq_false fun q => h0 (List.length_eq_zero_iff.1 q)
      rw [hnb] at hn
      have hml' : (safe.map encS).length = safe.length := List.length_map ..
      refine FnC.intro ti_ok Tryz.func46 rfl Tryz.ntmps46 Tryz.call46 rfl (Nat.le_of_ble_eq_true rfl) rfl ?_
      (repeat' ((conv=>whnf);first|with_reducible refine gA ?_|((with_reducible refine callE_id ?_); first | (refine CallE.con ⟨_, hn, ?_⟩) | refine CallE.inl ?_) | with_reducible refine CallI.inl ti_ok i45 rfl ?_ | with_reducible refine Spl.no hne ?_|(with_reducible first|refine gB ?_|refine gZ (fun x hx hu=>?_)|refine gY (fun x hx=>?_)|refine gE ?_|refine Both.mk ?_ ?_|refine gS (fun h=>?_) (fun h=>?_)|refine Spl.nt ?_|refine Spl.mk (fun h=>?_) (fun h=>?_))))
      rfl
end Go.Proofs.YtajeadkdacgldaaGreatDoor

/- Files and folders on a disk: mounted. Conditions: none. -/
namespace Go.Proofs.YtajeadkdacgldaaGreatDoor
open Go.Sy
set_option maxRecDepth 100000
set_option linter.all false
def mountV (d : Option Dk) : AV := if mntP (imgD d) then .tup [.d (.fp 1 [encD d]), .d (.it .i64 0)] else .tup [.d (.ot (.pointer none)), .d (.it .i64 (if safV d = [] then 1 else 8))]
theorem safV_img (d : Option Dk) : (imgD d).length = (safV d).length := by
  cases d with
  | none => rfl
  | some dk => unfold imgD safV; simp
theorem mount_ok (d : Option Dk) (hd : DkOK d) : FnC Tryz.prog 34 [.d (encD d)] (mountV d) := by
  have hs := safe_ok d hd
  have hm := mounted_ok d hd
  have hl := safV_img d
  have hsl : ((safV d).map encS).length = (safV d).length := List.length_map ..
  unfold mountV
  generalize encD d = E at *
  by_cases h0 : safV d = []
  · have hn : ¬ mntP (imgD d) := fun h => by
      have := h.1
      rw [hl, h0] at this; cases this
    rw [if_neg hn, if_pos h0]
    rw [h0] at hs
    refine FnC.intro ti_ok Tryz.func34 rfl Tryz.ntmps34 Tryz.call34 rfl (Nat.le_of_ble_eq_true rfl) rfl ?_
    (repeat' ((conv=>whnf);first|with_reducible refine gA ?_|((with_reducible refine callE_id ?_); first | (refine CallE.con ⟨_, hs, ?_⟩))|(with_reducible first|refine gB ?_|refine gZ (fun x hx hu=>?_)|refine gY (fun x hx=>?_)|refine gE ?_|refine Both.mk ?_ ?_|refine gS (fun h=>?_) (fun h=>?_)|refine Spl.nt ?_|refine Spl.mk (fun h=>?_) (fun h=>?_))))
    rfl
  · have h0' : (safV d).length ≠ 0 := fun q => h0 (List.length_eq_zero_iff.1 q)
    by_cases hp : mntP (imgD d)
    · rw [if_pos hp]
      rw [decide_eq_true hp] at hm
      refine FnC.introW ti_ok Tryz.func34 rfl Tryz.ntmps34 Tryz.call34 rfl (Nat.le_of_ble_eq_true rfl) rfl ?_
      (repeat' ((conv=>whnf);first|with_reducible refine gA ?_|((with_reducible refine callE_id ?_); first | (refine CallE.con ⟨_, hs, ?_⟩) | (refine CallE.con ⟨_, hm, ?_⟩))|(with_reducible first|refine gB ?_|refine gZ (fun x hx hu=>?_)|refine gY (fun x hx=>?_)|refine gE ?_|refine Both.mk ?_ ?_|refine gS (fun h=>?_) (fun h=>?_)|refine Spl.nt ?_|refine Spl.mk (fun h=>?_) (fun h=>?_))))
      refine ⟨⟨[(2, .d (.fp 1 [E])), (3, .d (.it .i64 0))], [], 1⟩, Wk.frzPL 0 1 [.d E] (by with_unfolding_all exact rfl) (And.intro ⟨_, by with_unfolding_all exact rfl, .inr ⟨[E], by with_unfolding_all exact rfl, rfl, rfl⟩⟩ (And.intro ⟨_, by with_unfolding_all exact rfl, .inl rfl⟩ trivial)) trivial rfl, ?_⟩
      exact rfl
    · rw [if_neg hp, if_neg h0]
      rw [decide_eq_false hp] at hm
      refine FnC.intro ti_ok Tryz.func34 rfl Tryz.ntmps34 Tryz.call34 rfl (Nat.le_of_ble_eq_true rfl) rfl ?_
      (repeat' ((conv=>whnf);first|with_reducible refine gA ?_|((with_reducible refine callE_id ?_); first | (refine CallE.con ⟨_, hs, ?_⟩) | (refine CallE.con ⟨_, hm, ?_⟩))|(with_reducible first|refine gB ?_|refine gZ (fun x hx hu=>?_)|refine gY (fun x hx=>?_)|refine gE ?_|refine Both.mk ?_ ?_|refine gS (fun h=>?_) (fun h=>?_)|refine Spl.nt ?_|refine Spl.mk (fun h=>?_) (fun h=>?_))))
      rfl
end Go.Proofs.YtajeadkdacgldaaGreatDoor

/- An empty disk. Conditions: none. -/
namespace Go.Proofs.YtajeadkdacgldaaGreatDoor
open Go.Sy
set_option maxRecDepth 100000
set_option linter.all false
def folderS : List UInt8 := [2, 0, 0, 0, 0, 0, 0, 0, 0, 0, 0, 0, 0, 0, 0, 0, 0, 0, 0, 0, 0, 0, 0, 0, 0, 0, 0, 0, 0, 0, 0, 0]
def emptyM : List (List UInt8) := superS :: folderS :: List.replicate 63 zeroS
theorem em_ok : ImOK emptyM := by
  intro s hs
  simp only [emptyM, List.mem_cons, List.mem_replicate] at hs
  rcases hs with rfl | rfl | ⟨_, rfl⟩ <;> rfl
theorem empty_ok : FnC Tryz.prog 20 [] (.d (encM emptyM)) := by
  have hs := refSuper_ok
  refine FnC.intro ti_ok Tryz.func20 rfl Tryz.ntmps20 Tryz.call20 rfl (Nat.le_of_ble_eq_true rfl) rfl ?_
  (repeat' ((conv=>whnf);first|with_reducible refine gA ?_|((with_reducible refine callE_id ?_); (refine CallE.con ⟨_, hs, ?_⟩))|(with_reducible first|refine gB ?_|refine gZ (fun x hx hu=>?_)|refine gY (fun x hx=>?_)|refine gE ?_|refine Both.mk ?_ ?_|refine gS (fun h=>?_) (fun h=>?_)|refine Spl.nt ?_|refine Spl.mk (fun h=>?_) (fun h=>?_))))
  refine ⟨emptyM.map encS, ⟨?_, ?_, ?_, ?_⟩, ?_⟩
  · exact Nat.le_of_ble_eq_true (by kernel_rfl)
  · kernel_rfl
  · intro x hx
    obtain ⟨s, hs, rfl⟩ := List.mem_map.1 hx
    rw [encS_len]; exact em_ok s hs
  · kernel_rfl
  · rfl
theorem from_ok (l : List (List UInt8)) (h : 1 ≤ l.length ∧ l.length ≤ 65) : FnC Tryz.prog 33 [.d (.fs 32 (l.map encS))] (.tup [.d (encD (some ⟨0, l, [], [], 0⟩)), .d (.it .i64 0)]) := by
  have hl : (l.map encS).length = l.length := List.length_map ..
  have hne : (l.map encS).isEmpty = false := by
    cases l with
    | nil => simp at h
    | cons => rfl
  refine FnC.introW ti_ok Tryz.func33 rfl Tryz.ntmps33 Tryz.call33 rfl (Nat.le_of_ble_eq_true rfl) rfl ?_
  (repeat' ((conv=>whnf);first|with_reducible refine gA ?_|((with_reducible refine callE_id ?_); refine CallE.inl ?_) | with_reducible refine CallI.inl ti_ok i44 rfl ?_ | with_reducible refine CallI.inl ti_ok i45 rfl ?_ | with_reducible refine Spl.no hne ?_|(with_reducible first|refine gB ?_|refine gZ (fun x hx hu=>?_)|refine gY (fun x hx=>?_)|refine gE ?_|refine Both.mk ?_ ?_|refine gS (fun h=>?_) (fun h=>?_)|refine Spl.nt ?_|refine Spl.mk (fun h=>?_) (fun h=>?_))))
  refine ⟨⟨[(2, .d (.fp 6 (encDk ⟨0, l, [], [], 0⟩))), (3, .d (.it .i64 0))], [], 8⟩, Wk.trans (Wk.vwL (τ := ⟨[(2, .ptr 6 0), (3, .d (.it .i64 0))], [(6, .cells 6 ((encDk ⟨0, l, [], [], 0⟩).map AV.d))], 8⟩) (And.intro (Vw.eq (by with_unfolding_all exact rfl)) (And.intro (Vw.eq (by with_unfolding_all exact rfl)) trivial)) ?_ rfl) (Wk.frzPL 6 6 ((encDk ⟨0, l, [], [], 0⟩).map AV.d) rfl (And.intro ⟨_, rfl, .inr ⟨encDk ⟨0, l, [], [], 0⟩, rfl, rfl, rfl⟩⟩ (And.intro ⟨_, rfl, .inl rfl⟩ trivial)) trivial rfl), ?_⟩
  · exact And.intro (VwO.cells _ _ _ (.cons (Vw.eq rfl) rfl (.cons (Vw.eq rfl) rfl (.cons (Vw.ts' rfl) rfl (.cons (Vw.nl' rfl) rfl (.cons (Vw.nl' rfl) rfl (.cons (Vw.eq rfl) rfl .nil))))))) trivial
  · rfl
end Go.Proofs.YtajeadkdacgldaaGreatDoor
