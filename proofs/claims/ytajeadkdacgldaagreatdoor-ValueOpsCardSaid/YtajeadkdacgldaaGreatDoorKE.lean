/- Contracts of the functions that the law reaches, and the law. Conditions: none. -/
import Derived.Test.YtajeadkdacgldaaGreatDoorKA
import Derived.Test.YtajeadkdacgldaaGreatDoorKC
import Derived.Test.YtajeadkdacgldaaGreatDoorSD
import Derived.Test.YtajeadkdacgldaaGreatDoorSC
set_option linter.all false
/- The name a, as a contract. Conditions: none. -/
namespace Go.Proofs.YtajeadkdacgldaaGreatDoor
open Go.Sy
set_option maxRecDepth 100000
set_option linter.all false
theorem name_a : FnC Tryz.prog 50 [.d (.st [97])] (.d (.bl true)) := by
  refine ⟨rfl, fun g w vs hfz hG hsz hav => .inl ⟨Tryz.call50 vs w, ?_⟩⟩
  obtain ⟨m, hm⟩ := hG 0 (List.mem_cons_self ..)
  have hm := hfz _ _ _ hm
  have h0 : 0 < w.heap.size := World.block_lt_of_cell? w ⟨0, 0, none⟩ hm
  have h1 := hav 0 (Nat.zero_lt_succ _)
  have hv : vs = #[vs.getD 0 undef] := by
    apply Array.ext
    · simpa using hsz
    · intro i h1 h2
      have : i = 0 := by simp at h2; omega
      subst this
      simp [Array.getD, h1]
  rw [hv]
  generalize vs.getD 0 undef = v at *
  obtain rfl : v = .string ⟨#[97]⟩ := by cases h1 with | d _ _ h => cases h; rfl
  refine (lexName_a w m hm h0).mono ?_
  rintro e w' ⟨rfl, hb⟩
  exact ⟨_, g, rfl, .d _ _ (.bl true), fun _ _ _ h => h, fun _ _ _ h => .inl h, fun b o v h => (hb.cell (p := ⟨b, o, none⟩) (World.block_lt_of_cell? w _ (hfz b o v h))).trans (hfz b o v h), hb.size, fun b h => hb.block b h, hb.os, hb.tape, hb.output⟩
end Go.Proofs.YtajeadkdacgldaaGreatDoor

/- A constant expression is right. Conditions: none. -/
namespace Go.Proofs.YtajeadkdacgldaaGreatDoor
open Go.Sy
set_option maxRecDepth 100000
set_option linter.all false
def exN1 : List D := [.it .i64 1, .it .i64 1, .st [], .fs 4 []]
def exA : List D := [.it .i64 4, .it .i64 0, .st [97], .fs 4 []]
def exS : List D := [.it .i64 10, .it .i64 0, .st [], .fs 4 [exN1, exA]]
theorem parts_ok (op n : Int) (h : 1 ≤ op ∧ op ≤ 14) (hn : n = if op ≤ 4 then 0 else if op ≤ 8 then 1 else 2) : FnC Tryz.prog 59 [.d (.it .i64 op)] (.tup [.d (.it .i64 n), .d (.bl true)]) := by
  refine FnC.intro ti_ok Tryz.func59 rfl Tryz.ntmps59 Tryz.call59 rfl (Nat.le_of_ble_eq_true rfl) rfl ?_
  by_cases h4 : op ≤ 4
  · rw [if_pos h4] at hn
    subst hn
    (repeat' ((conv=>whnf);first|with_reducible refine gA ?_|(with_reducible first|refine gB ?_|refine gZ (fun x hx hu=>?_)|refine gY (fun x hx=>?_)|refine gE ?_|refine Both.mk ?_ ?_|refine gS (fun h=>?_) (fun h=>?_)|refine Spl.nt ?_|refine Spl.mk (fun h=>?_) (fun h=>?_))))
    all_goals first | rfl | (exfalso; omega)
  · rw [if_neg h4] at hn
    by_cases h8 : op ≤ 8
    · rw [if_pos h8] at hn
      subst hn
      (repeat' ((conv=>whnf);first|with_reducible refine gA ?_|(with_reducible first|refine gB ?_|refine gZ (fun x hx hu=>?_)|refine gY (fun x hx=>?_)|refine gE ?_|refine Both.mk ?_ ?_|refine gS (fun h=>?_) (fun h=>?_)|refine Spl.nt ?_|refine Spl.mk (fun h=>?_) (fun h=>?_))))
      all_goals first | rfl | (exfalso; omega)
    · rw [if_neg h8] at hn
      subst hn
      (repeat' ((conv=>whnf);first|with_reducible refine gA ?_|(with_reducible first|refine gB ?_|refine gZ (fun x hx hu=>?_)|refine gY (fun x hx=>?_)|refine gE ?_|refine Both.mk ?_ ?_|refine gS (fun h=>?_) (fun h=>?_)|refine Spl.nt ?_|refine Spl.mk (fun h=>?_) (fun h=>?_))))
      all_goals first | rfl | (exfalso; omega)
theorem expr_n1 : FnC Tryz.prog 52 [.dg 4 exN1, .d (.it .i64 7)] (.d (.bl true)) := by
  have hp := parts_ok 1 0 (by decide) rfl
  refine FnC.intro ti_ok Tryz.func52 rfl Tryz.ntmps52 Tryz.call52 rfl (Nat.le_of_ble_eq_true rfl) rfl ?_
  (repeat' ((conv=>whnf);first|with_reducible refine gA ?_|((with_reducible refine callE_id ?_); first | refine CallE.con ⟨_, hp, ?_⟩ | refine CallE.inl ?_) | ((with_reducible refine callI_id ?_); first | with_reducible refine CallI.inl ti_ok i75 rfl ?_ | with_reducible refine CallI.inl ti_ok i98 rfl ?_) | with_reducible refine LoopS.unroll ti_ok 2 ?_|(with_reducible first|refine gB ?_|refine gZ (fun x hx hu=>?_)|refine gY (fun x hx=>?_)|refine gE ?_|refine Both.mk ?_ ?_|refine gS (fun h=>?_) (fun h=>?_)|refine Spl.nt ?_|refine Spl.mk (fun h=>?_) (fun h=>?_))))
  all_goals rfl
theorem expr_a : FnC Tryz.prog 52 [.dg 4 exA, .d (.it .i64 7)] (.d (.bl true)) := by
  have hp := parts_ok 4 0 (by decide) rfl
  have hn := name_a
  refine FnC.intro ti_ok Tryz.func52 rfl Tryz.ntmps52 Tryz.call52 rfl (Nat.le_of_ble_eq_true rfl) rfl ?_
  (repeat' ((conv=>whnf);first|with_reducible refine gA ?_|((with_reducible refine callE_id ?_); first | refine CallE.con ⟨_, hp, ?_⟩ | refine CallE.con ⟨_, hn, ?_⟩ | refine CallE.inl ?_) | ((with_reducible refine callI_id ?_); first | with_reducible refine CallI.inl ti_ok i75 rfl ?_ | with_reducible refine CallI.inl ti_ok i98 rfl ?_) | with_reducible refine LoopS.unroll ti_ok 2 ?_|(with_reducible first|refine gB ?_|refine gZ (fun x hx hu=>?_)|refine gY (fun x hx=>?_)|refine gE ?_|refine Both.mk ?_ ?_|refine gS (fun h=>?_) (fun h=>?_)|refine Spl.nt ?_|refine Spl.mk (fun h=>?_) (fun h=>?_))))
  all_goals rfl
theorem expr_s : FnC Tryz.prog 52 [.dg 4 exS, .d (.it .i64 8)] (.d (.bl true)) := by
  have hp := parts_ok 10 2 (by decide) rfl
  have h1 := expr_n1
  have h2 := expr_a
  refine FnC.intro ti_ok Tryz.func52 rfl Tryz.ntmps52 Tryz.call52 rfl (Nat.le_of_ble_eq_true rfl) rfl ?_
  (repeat' ((conv=>whnf);first|with_reducible refine gA ?_|((with_reducible refine callE_id ?_); first | refine CallE.con ⟨_, hp, ?_⟩ | refine CallE.con ⟨_, h1, ?_⟩ | refine CallE.con ⟨_, h2, ?_⟩ | refine CallE.inl ?_) | ((with_reducible refine callI_id ?_); first | with_reducible refine CallI.inl ti_ok i75 rfl ?_ | with_reducible refine CallI.inl ti_ok i98 rfl ?_ | with_reducible refine CallI.inl ti_ok i76 rfl ?_) | with_reducible refine LoopS.unroll ti_ok 3 ?_|(with_reducible first|refine gB ?_|refine gZ (fun x hx hu=>?_)|refine gY (fun x hx=>?_)|refine gE ?_|refine Both.mk ?_ ?_|refine gS (fun h=>?_) (fun h=>?_)|refine Spl.nt ?_|refine Spl.mk (fun h=>?_) (fun h=>?_))))
  all_goals rfl
end Go.Proofs.YtajeadkdacgldaaGreatDoor

/- A constant program is right. Conditions: none. -/
namespace Go.Proofs.YtajeadkdacgldaaGreatDoor
open Go.Sy
set_option maxRecDepth 100000
set_option linter.all false
def prC : List D := [.fs 2 [], .fs 7 [], .fs 7 [], .fs 5 [.st [97] :: exS]]
def ptC : D := .fs 1 [[.fs 7 []], [.fs 7 []]]
theorem parts_c : FnC Tryz.prog 58 [.dg 4 prC] (.d ptC) := by
  refine FnC.intro ti_ok Tryz.func58 rfl Tryz.ntmps58 Tryz.call58 rfl (Nat.le_of_ble_eq_true rfl) rfl ?_
  (repeat' ((conv=>whnf);first|with_reducible refine gA ?_|with_reducible refine LoopS.unroll ti_ok 2 ?_|(with_reducible first|refine gB ?_|refine gZ (fun x hx hu=>?_)|refine gY (fun x hx=>?_)|refine gE ?_|refine Both.mk ?_ ?_|refine gS (fun h=>?_) (fun h=>?_)|refine Spl.nt ?_|refine Spl.mk (fun h=>?_) (fun h=>?_))))
  all_goals rfl
theorem all_c : FnC Tryz.prog 48 [.dg 4 prC] (.d (.fs 7 [])) := by
  have hp := parts_c
  refine FnC.intro ti_ok Tryz.func48 rfl Tryz.ntmps48 Tryz.call48 rfl (Nat.le_of_ble_eq_true rfl) rfl ?_
  (repeat' ((conv=>whnf);first|with_reducible refine gA ?_|((with_reducible refine callE_id ?_); first | refine CallE.con ⟨_, hp, ?_⟩ | refine CallE.inl ?_) | ((with_reducible refine callI_id ?_); first | with_reducible refine CallI.inl ti_ok i68 rfl ?_) | with_reducible refine LoopS.unroll ti_ok 3 ?_ | refine RangeS.intro ti_ok i90 rfl rfl ?_|(with_reducible first|refine gB ?_|refine gZ (fun x hx hu=>?_)|refine gY (fun x hx=>?_)|refine gE ?_|refine Both.mk ?_ ?_|refine gS (fun h=>?_) (fun h=>?_)|refine Spl.nt ?_|refine Spl.mk (fun h=>?_) (fun h=>?_))))
  all_goals rfl
theorem right_c : FnC Tryz.prog 36 [.dg 4 prC] (.d (.bl true)) := by
  have hp := parts_c
  have ha := all_c
  have hn := name_a
  have he := expr_s
  refine FnC.intro ti_ok Tryz.func36 rfl Tryz.ntmps36 Tryz.call36 rfl (Nat.le_of_ble_eq_true rfl) rfl ?_
  (repeat' ((conv=>whnf);first|with_reducible refine gA ?_|((with_reducible refine callE_id ?_); first | refine CallE.con ⟨_, hp, ?_⟩ | refine CallE.con ⟨_, ha, ?_⟩ | refine CallE.con ⟨_, hn, ?_⟩ | refine CallE.con ⟨_, he, ?_⟩ | refine CallE.inl ?_) | ((with_reducible refine callI_id ?_); first | with_reducible refine CallI.inl ti_ok i55 rfl ?_ | with_reducible refine CallI.inl ti_ok i80 rfl ?_ | with_reducible refine CallI.inl ti_ok i56 rfl ?_ | with_reducible refine CallI.inl ti_ok i81 rfl ?_ | with_reducible refine CallI.inl ti_ok i51 rfl ?_ | with_reducible refine CallI.inl ti_ok i57 rfl ?_ | with_reducible refine CallI.inl ti_ok i82 rfl ?_ | with_reducible refine CallI.inl ti_ok i53 rfl ?_ | with_reducible refine CallI.inl ti_ok i54 rfl ?_ | with_reducible refine CallI.inl ti_ok i77 rfl ?_ | with_reducible refine CallI.inl ti_ok i99 rfl ?_) | with_reducible refine LoopS.unroll ti_ok 3 ?_|(with_reducible first|refine gB ?_|refine gZ (fun x hx hu=>?_)|refine gY (fun x hx=>?_)|refine gE ?_|refine Both.mk ?_ ?_|refine gS (fun h=>?_) (fun h=>?_)|refine Spl.nt ?_|refine Spl.mk (fun h=>?_) (fun h=>?_))))
  all_goals rfl
end Go.Proofs.YtajeadkdacgldaaGreatDoor

/- A constant expression's value. Conditions: none. -/
namespace Go.Proofs.YtajeadkdacgldaaGreatDoor
open Go.Sy
set_option maxRecDepth 100000
set_option linter.all false
def vrC : D := .fs 4 [[.st [97], .it .i64 1, .it .i64 2, .st []]]
theorem leaf_n1 : FnC Tryz.prog 60 [.dg 4 exN1, .d vrC] (tupV (intV 1, 0)) := by
  have hi := vInt_ok 1
  refine FnC.intro ti_ok Tryz.func60 rfl Tryz.ntmps60 Tryz.call60 rfl (Nat.le_of_ble_eq_true rfl) rfl ?_
  (repeat' ((conv=>whnf);first|with_reducible refine gA ?_|((with_reducible refine callE_id ?_); first | refine CallE.con ⟨_, hi, ?_⟩)|(with_reducible first|refine gB ?_|refine gZ (fun x hx hu=>?_)|refine gY (fun x hx=>?_)|refine gE ?_|refine Both.mk ?_ ?_|refine gS (fun h=>?_) (fun h=>?_)|refine Spl.nt ?_|refine Spl.mk (fun h=>?_) (fun h=>?_))))
  all_goals rfl
theorem leaf_a : FnC Tryz.prog 60 [.dg 4 exA, .d vrC] (tupV (intV 2, 0)) := by
  refine FnC.intro ti_ok Tryz.func60 rfl Tryz.ntmps60 Tryz.call60 rfl (Nat.le_of_ble_eq_true rfl) rfl ?_
  (repeat' ((conv=>whnf);first|with_reducible refine gA ?_|((with_reducible refine callE_id ?_); refine CallE.inl ?_) | ((with_reducible refine callI_id ?_); first | with_reducible refine CallI.inl ti_ok i30 rfl ?_ | with_reducible refine CallI.inl ti_ok i42 rfl ?_ | with_reducible refine CallI.inl ti_ok i43 rfl ?_) | with_reducible refine LoopS.unroll ti_ok 2 ?_|(with_reducible first|refine gB ?_|refine gZ (fun x hx hu=>?_)|refine gY (fun x hx=>?_)|refine gE ?_|refine Both.mk ?_ ?_|refine gS (fun h=>?_) (fun h=>?_)|refine Spl.nt ?_|refine Spl.mk (fun h=>?_) (fun h=>?_))))
  all_goals rfl
theorem eval_n1 (F : D) : FnC Tryz.prog 37 [.d F, .dg 4 exN1, .d vrC] (tupV (intV 1, 0)) := by
  have hp := parts_ok 1 0 (by decide) rfl
  have hl := leaf_n1
  unfold tupV at hl ⊢
  refine FnC.intro ti_ok Tryz.func37 rfl Tryz.ntmps37 Tryz.call37 rfl (Nat.le_of_ble_eq_true rfl) rfl ?_
  (repeat' ((conv=>whnf);first|with_reducible refine gA ?_|((with_reducible refine callE_id ?_); first | refine CallE.con ⟨_, hp, ?_⟩ | refine CallE.con ⟨_, hl, ?_⟩)|(with_reducible first|refine gB ?_|refine gZ (fun x hx hu=>?_)|refine gY (fun x hx=>?_)|refine gE ?_|refine Both.mk ?_ ?_|refine gS (fun h=>?_) (fun h=>?_)|refine Spl.nt ?_|refine Spl.mk (fun h=>?_) (fun h=>?_))))
  all_goals rfl
theorem eval_a (F : D) : FnC Tryz.prog 37 [.d F, .dg 4 exA, .d vrC] (tupV (intV 2, 0)) := by
  have hp := parts_ok 4 0 (by decide) rfl
  have hl := leaf_a
  unfold tupV at hl ⊢
  refine FnC.intro ti_ok Tryz.func37 rfl Tryz.ntmps37 Tryz.call37 rfl (Nat.le_of_ble_eq_true rfl) rfl ?_
  (repeat' ((conv=>whnf);first|with_reducible refine gA ?_|((with_reducible refine callE_id ?_); first | refine CallE.con ⟨_, hp, ?_⟩ | refine CallE.con ⟨_, hl, ?_⟩)|(with_reducible first|refine gB ?_|refine gZ (fun x hx hu=>?_)|refine gY (fun x hx=>?_)|refine gE ?_|refine Both.mk ?_ ?_|refine gS (fun h=>?_) (fun h=>?_)|refine Spl.nt ?_|refine Spl.mk (fun h=>?_) (fun h=>?_))))
  all_goals rfl
theorem eval_s (F : D) : FnC Tryz.prog 37 [.d F, .dg 4 exS, .d vrC] (tupV (intV (-1), 0)) := by
  have hp := parts_ok 10 2 (by decide) rfl
  have h1 := eval_n1 F
  have h2 := eval_a F
  have ho := op_ok 10 (intV 1) (intV 2) (by decide) (by decide)
  rw [show opV 10 (intV 1) (intV 2) = (intV (-1), 0) by decide +kernel] at ho
  unfold tupV at h1 h2 ho ⊢
  refine FnC.intro ti_ok Tryz.func37 rfl Tryz.ntmps37 Tryz.call37 rfl (Nat.le_of_ble_eq_true rfl) rfl ?_
  (repeat' ((conv=>whnf);first|with_reducible refine gA ?_|((with_reducible refine callE_id ?_); first | refine CallE.con ⟨_, hp, ?_⟩ | refine CallE.con ⟨_, h1, ?_⟩ | refine CallE.con ⟨_, h2, ?_⟩ | refine CallE.con ⟨_, ho, ?_⟩)|(with_reducible first|refine gB ?_|refine gZ (fun x hx hu=>?_)|refine gY (fun x hx=>?_)|refine gE ?_|refine Both.mk ?_ ?_|refine gS (fun h=>?_) (fun h=>?_)|refine Spl.nt ?_|refine Spl.mk (fun h=>?_) (fun h=>?_))))
  all_goals rfl
theorem evalE (F : D) : FnC Tryz.prog 21 [.d F, .dg 4 exS, .d vrC] (tupV (intV (-1), 0)) := by
  have hr := right_c
  have he := eval_s F
  unfold tupV at he ⊢
  refine FnC.intro ti_ok Tryz.func21 rfl Tryz.ntmps21 Tryz.call21 rfl (Nat.le_of_ble_eq_true rfl) rfl ?_
  (repeat' ((conv=>whnf);first|with_reducible refine gA ?_|((with_reducible refine callE_id ?_); first | refine CallE.con ⟨_, hr, ?_⟩ | refine CallE.con ⟨_, he, ?_⟩)|(with_reducible first|refine gB ?_|refine gZ (fun x hx hu=>?_)|refine gY (fun x hx=>?_)|refine gE ?_|refine Both.mk ?_ ?_|refine gS (fun h=>?_) (fun h=>?_)|refine Spl.nt ?_|refine Spl.mk (fun h=>?_) (fun h=>?_))))
  all_goals rfl
end Go.Proofs.YtajeadkdacgldaaGreatDoor
