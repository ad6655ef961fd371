/- Contracts of the functions that the law reaches, and the law. Conditions: none. -/
import Derived.Test.YtmfokpfddponjaaGreatDoorKA
import Derived.Test.YtmfokpfddponjaaGreatDoorSC
import Derived.Lib.RowBridge
set_option maxRecDepth 100000
set_option linter.all false
namespace Go.Proofs.YtmfokpfddponjaaGreatDoor
open Go.Sy
structure Ino where
 k : Int
 z : Int
 b0 : Int
 b1 : Int
 b2 : Int
 b3 : Int
deriving DecidableEq
def encI (x : Ino) : List D := [.it .i64 x.k, .it .i64 x.z, .it .i64 x.b0, .it .i64 x.b1, .it .i64 x.b2, .it .i64 x.b3]
def RI (x : Ino) : Prop := (x.k = 0 ∨ x.k = 2) ∧ x.z = 0 ∧ x.b0 = 0 ∧ x.b1 = 0 ∧ x.b2 = 0 ∧ x.b3 = 0 ∨
 x.k = 1 ∧ 0 ≤ x.z ∧ x.z ≤ 128 ∧ (0 < x.z → 1 ≤ x.b0 ∧ x.b0 ≤ 24) ∧ (x.z ≤ 0 → x.b0 = 0) ∧ (32 < x.z → 1 ≤ x.b1 ∧ x.b1 ≤ 24 ∧ x.b1 ≠ x.b0) ∧ (x.z ≤ 32 → x.b1 = 0) ∧
 (64 < x.z → 1 ≤ x.b2 ∧ x.b2 ≤ 24 ∧ x.b2 ≠ x.b0 ∧ x.b2 ≠ x.b1) ∧ (x.z ≤ 64 → x.b2 = 0) ∧ (96 < x.z → 1 ≤ x.b3 ∧ x.b3 ≤ 24 ∧ x.b3 ≠ x.b0 ∧ x.b3 ≠ x.b1 ∧ x.b3 ≠ x.b2) ∧ (x.z ≤ 96 → x.b3 = 0)
instance (x : Ino) : Decidable (RI x) := by unfold RI; infer_instance
theorem need_ok (z : Int) (h0 : 0 ≤ z) (h1 : z ≤ 128) : FnC Tryz.prog 110 [.d (.it .i64 z)] (.d (.it .i64 ((z + 31) / 32))) := by
 refine FnC.intro ti_ok Tryz.func110 rfl Tryz.ntmps110 Tryz.call110 rfl (Nat.le_of_ble_eq_true rfl) rfl ?_
 (repeat' ((conv=>whnf);first|with_reducible refine gA ?_|(with_reducible first|refine gB ?_|refine gZ (fun x hx hu=>?_)|refine gY (fun x hx=>?_)|refine gE ?_|refine Both.mk ?_ ?_|refine gS (fun h=>?_) (fun h=>?_)|refine Spl.nt ?_|refine Spl.mk (fun h=>?_) (fun h=>?_))))
 all_goals exact it_eq (by omega)
theorem bl_of {e : Bool} {p : Prop} [Decidable p] (h : e = true ↔ p) : AV.d (.bl e) = AV.d (.bl (decide p)) := by
 have : e = decide p := by rw [Bool.eq_iff_iff, h, decide_eq_true_eq]
 rw [this]
theorem bl_ff {p : Prop} [Decidable p] (h : ¬ p) : AV.d (.bl false) = AV.d (.bl (decide p)) := by rw [decide_eq_false h]
theorem bl_tt {p : Prop} [Decidable p] (h : p) : AV.d (.bl true) = AV.d (.bl (decide p)) := by rw [decide_eq_true h]
theorem bl_dec {p q : Prop} [Decidable p] [Decidable q] (h : p ↔ q) : AV.d (.bl (decide p)) = AV.d (.bl (decide q)) := by
 have : decide p = decide q := by rw [Bool.eq_iff_iff, decide_eq_true_eq, decide_eq_true_eq, h]
 rw [this]
theorem bl_tr {a b : Bool} {v : AV} (h : a = b) (h2 : AV.d (.bl b) = v) : AV.d (.bl a) = v := by rw [h, h2]
end Go.Proofs.YtmfokpfddponjaaGreatDoor
namespace Go.Proofs.YtmfokpfddponjaaGreatDoor
open Go.Sy
def lenN (n : Nat) : Int := if n = 0 then 0 else if n = 1 then 1 else if n < 4 then 2 else 3
theorem len64_ok (n : Nat) (hn : n ≤ 4) : FnC Tryz.prog 137 [.d (.it .u64 n)] (.d (.it .i64 (lenN n))) := by
 refine FnC.intro ti_ok Tryz.func137 rfl Tryz.ntmps137 Tryz.call137 rfl (Nat.le_of_ble_eq_true rfl) rfl ?_
 match n, hn with
 | 0, _ =>
  (repeat' ((conv=>whnf);first|with_reducible refine gA ?_|refine at_lit (x := (0 : UInt8)) (by decide +kernel) (by decide +kernel) ?_ | with_reducible refine LetI.eq 0 (by with_unfolding_all exact rfl) ?_|(with_reducible first|refine gB ?_|refine gZ (fun x hx hu=>?_)|refine gY (fun x hx=>?_)|refine gE ?_|refine Both.mk ?_ ?_|refine gS (fun h=>?_) (fun h=>?_)|refine Spl.nt ?_|refine Spl.mk (fun h=>?_) (fun h=>?_))))
  with_unfolding_all exact rfl
 | 1, _ =>
  (repeat' ((conv=>whnf);first|with_reducible refine gA ?_|refine at_lit (x := (1 : UInt8)) (by decide +kernel) (by decide +kernel) ?_ | with_reducible refine LetI.eq 1 (by with_unfolding_all exact rfl) ?_|(with_reducible first|refine gB ?_|refine gZ (fun x hx hu=>?_)|refine gY (fun x hx=>?_)|refine gE ?_|refine Both.mk ?_ ?_|refine gS (fun h=>?_) (fun h=>?_)|refine Spl.nt ?_|refine Spl.mk (fun h=>?_) (fun h=>?_))))
  with_unfolding_all exact rfl
 | 2, _ =>
  (repeat' ((conv=>whnf);first|with_reducible refine gA ?_|refine at_lit (x := (2 : UInt8)) (by decide +kernel) (by decide +kernel) ?_ | with_reducible refine LetI.eq 2 (by with_unfolding_all exact rfl) ?_|(with_reducible first|refine gB ?_|refine gZ (fun x hx hu=>?_)|refine gY (fun x hx=>?_)|refine gE ?_|refine Both.mk ?_ ?_|refine gS (fun h=>?_) (fun h=>?_)|refine Spl.nt ?_|refine Spl.mk (fun h=>?_) (fun h=>?_))))
  with_unfolding_all exact rfl
 | 3, _ =>
  (repeat' ((conv=>whnf);first|with_reducible refine gA ?_|refine at_lit (x := (2 : UInt8)) (by decide +kernel) (by decide +kernel) ?_ | with_reducible refine LetI.eq 2 (by with_unfolding_all exact rfl) ?_|(with_reducible first|refine gB ?_|refine gZ (fun x hx hu=>?_)|refine gY (fun x hx=>?_)|refine gE ?_|refine Both.mk ?_ ?_|refine gS (fun h=>?_) (fun h=>?_)|refine Spl.nt ?_|refine Spl.mk (fun h=>?_) (fun h=>?_))))
  with_unfolding_all exact rfl
 | 4, _ =>
  (repeat' ((conv=>whnf);first|with_reducible refine gA ?_|refine at_lit (x := (3 : UInt8)) (by decide +kernel) (by decide +kernel) ?_ | with_reducible refine LetI.eq 3 (by with_unfolding_all exact rfl) ?_|(with_reducible first|refine gB ?_|refine gZ (fun x hx hu=>?_)|refine gY (fun x hx=>?_)|refine gE ?_|refine Both.mk ?_ ?_|refine gS (fun h=>?_) (fun h=>?_)|refine Spl.nt ?_|refine Spl.mk (fun h=>?_) (fun h=>?_))))
  with_unfolding_all exact rfl
theorem len_ok (n : Nat) (hn : n ≤ 4) : FnC Tryz.prog 91 [.d (.it .u64 n)] (.d (.it .i64 (lenN n))) := by
 refine FnC.intro ti_ok Tryz.func91 rfl Tryz.ntmps91 Tryz.call91 rfl (Nat.le_of_ble_eq_true rfl) rfl ?_
 have h := len64_ok n hn
 (repeat' ((conv=>whnf);first|with_reducible refine gA ?_|(refine CallE.con ⟨_, h, ?_⟩) | (refine CallP.mk ⟨_, h, ?_⟩)|(with_reducible first|refine gB ?_|refine gZ (fun x hx hu=>?_)|refine gY (fun x hx=>?_)|refine gE ?_|refine Both.mk ?_ ?_|refine gS (fun h=>?_) (fun h=>?_)|refine Spl.nt ?_|refine Spl.mk (fun h=>?_) (fun h=>?_))))
 rfl
end Go.Proofs.YtmfokpfddponjaaGreatDoor
namespace Go.Proofs.YtmfokpfddponjaaGreatDoor
open Go.Sy
def sortI (l : List Int) : List Int := l.mergeSort fun x y => decide (x ≤ y)
def vI (l : List Int) : List (List D) := l.map fun z => [.it .i64 z]
theorem sortI_ok (t : Nat) (fl : Bool) (zs : List Int) (h0 : 0 < zs.length) (hsz : zs.length < 4611686018427387904) : FnM Tryz.prog 114 true [.vx 1 0 0 zs.length] (.vec t 1 (vI zs) fl) (.vec t 1 (vI (sortI zs)) fl) (.tup []) :=
 FnM.ofRow (Value.int .i64) (fun z => .it .i64 z) (fun F x => .it _ _) (fun F x v h => by cases h; rfl) (m := none) (List.length_mergeSort _) h0 (fun q h => by cases h) Tryz.call114 (fun blk off cap w hH hb hc => (Tryz.slices_Sort_int blk off cap zs w hH hb hsz).mono fun e w' h => h)
theorem compactI_ok (t : Nat) (fl : Bool) (n : Nat) (zs : List Int) (hn : zs.length = n) (h0 : 0 < n) (hsz : n < 4611686018427387904) : FnM Tryz.prog 115 true [.vx 1 0 0 n] (.vec t 1 (vI zs) fl) (.vec t 1 (vI (Lib.compact zs ++ List.replicate (zs.length - (Lib.compact zs).length) 0)) fl) (.vx 1 0 0 (Lib.compact zs).length) := by
 subst hn
 exact FnM.ofRow (Value.int .i64) (fun z => .it .i64 z) (fun F x => .it _ _) (fun F x v h => by cases h; rfl) (m := some (Lib.compact zs).length) (by have := Lib.compact_length_le zs; simp; omega) h0 (fun q h => by cases h; exact Lib.compact_length_le zs) Tryz.call115 (fun blk off cap w hH hb hc => (Tryz.slices_Compact_int blk off cap zs w hH (by omega) hc).mono fun e w' ⟨h1, q, h2⟩ => ⟨h1, q, #[], by rw [Go.Sort.grow_empty]; exact h2⟩)
end Go.Proofs.YtmfokpfddponjaaGreatDoor
namespace Go.Proofs.YtmfokpfddponjaaGreatDoor
open Go.Sy
theorem ex_id {α : Type} {p : α → Prop} (h : ∃ x, p x) : ∃ x, p x := h
theorem _root_.Go.Sy.CallE.id {A B : Prop} (h : CallE A B) : CallE A B := h
theorem _root_.Go.Sy.CallI.id {P : Program} {N : Nat} {o : Oper} {σ : S} {f : Nat} {l : List AV} {K : S → Prop} (h : CallI P N o σ f l K) : CallI P N o σ f l K := h
def riT : Tr := (.cons 0 (.cons 1 (.cons 2 (.cons 3 (.cons 4 (.cons 5 (.cons 6 .nil .nil) .nil) .nil) .nil) .nil) (.cons 2 (.cons 1 (.cons 3 (.cons 4 (.cons 5 (.cons 6 .nil .nil) .nil) .nil) .nil) (.cons 3 (.cons 1 (.cons 4 (.cons 5 (.cons 6 .nil .nil) .nil) .nil) (.cons 4 (.cons 1 (.cons 5 (.cons 6 .nil .nil) .nil) .nil) .nil)) .nil)) .nil)) (.cons 2 (.cons 0 (.cons 1 (.cons 3 (.cons 4 (.cons 5 (.cons 6 .nil .nil) .nil) .nil) .nil) (.cons 3 (.cons 1 (.cons 4 (.cons 5 (.cons 6 .nil .nil) .nil) .nil) (.cons 4 (.cons 1 (.cons 5 (.cons 6 .nil .nil) .nil) .nil) .nil)) .nil)) (.cons 3 (.cons 0 (.cons 1 (.cons 4 (.cons 5 (.cons 6 .nil .nil) .nil) .nil) (.cons 4 (.cons 1 (.cons 5 (.cons 6 .nil .nil) .nil) .nil) .nil)) .nil) .nil)) .nil))
set_option maxHeartbeats 4000000 in
theorem ri1 (x : Ino) (hk : x.k = 1) (h1 : 0 ≤ x.z) (h2 : x.z ≤ 128) (hz : (x.z + 31) / 32 = 1) (hd : ((Lib.compact (sortI [x.b0])).length = 1 ↔ [x.b0].Nodup)) : FnC Tryz.prog 79 [.dg 6 (encI x)] (.d (.bl (decide (RI x)))) := by
 refine FnC.intro ti_ok Tryz.func79 rfl Tryz.ntmps79 Tryz.call79 rfl (Nat.le_of_ble_eq_true rfl) rfl ?_
 have hn := need_ok x.z h1 h2
 rw [hz] at hn
 (repeat' ((conv=>whnf);first|with_reducible refine gA ?_|((with_reducible refine ex_id ?_); refine ⟨[[.it .i64 x.b0]], ⟨by decide +kernel, rfl, by simp, rfl, by decide +kernel⟩, NilS.vec ⟨by with_unfolding_all exact rfl, ?_⟩⟩) | with_reducible refine draw_htree ti_ok mixed [0] riT (by decide +kernel) ?_ | with_reducible exact trivial | with_reducible refine Br.mk ?_ ?_ | ((with_reducible refine CallE.id ?_); first | (refine CallE.con ⟨_, hn, ?_⟩) | refine CallE.inl ?_) | ((with_reducible refine CallI.id ?_); first | with_reducible refine CallI.inl ti_ok i109 rfl ?_ | with_reducible refine CallI.inl ti_ok i112 rfl ?_ | with_reducible refine CallI.inl ti_ok i148 rfl ?_ | with_reducible refine CallI.inl ti_ok i111 rfl ?_ | with_reducible refine CallI.inl ti_ok i113 rfl ?_ | refine CallI.byM (sortI_ok _ _ [x.b0] (Nat.le_of_ble_eq_true rfl) (Nat.le_of_ble_eq_true rfl)) (by with_unfolding_all exact rfl) rfl ?_ | refine CallI.byM (compactI_ok _ _ 1 (sortI [x.b0]) (by simp [sortI]) (Nat.le_of_ble_eq_true rfl) (Nat.le_of_ble_eq_true rfl)) (by with_unfolding_all exact rfl) rfl ?_) | with_reducible refine LoopS.unroll ti_ok 5 ?_|(with_reducible first|refine gB ?_|refine gZ (fun x hx hu=>?_)|refine gY (fun x hx=>?_)|refine gE ?_|refine Both.mk ?_ ?_|refine gS (fun h=>?_) (fun h=>?_)|refine Spl.nt ?_|refine Spl.mk (fun h=>?_) (fun h=>?_))))
 all_goals try exact bl_ff (by unfold RI; omega)
 all_goals (conv => whnf)
 all_goals refine bl_dec (Iff.trans (show _ ↔ _ by omega) (hd.trans ?_))
 all_goals (unfold RI; simp only [List.nodup_cons, List.mem_cons, List.not_mem_nil, List.nodup_nil, not_or, or_false, false_or, not_false_eq_true, and_true, true_iff, List.nodup_nil, true_and]; omega)
set_option maxHeartbeats 4000000 in
theorem ri2 (x : Ino) (hk : x.k = 1) (h1 : 0 ≤ x.z) (h2 : x.z ≤ 128) (hz : (x.z + 31) / 32 = 2) (hd : ((Lib.compact (sortI [x.b0, x.b1])).length = 2 ↔ [x.b0, x.b1].Nodup)) : FnC Tryz.prog 79 [.dg 6 (encI x)] (.d (.bl (decide (RI x)))) := by
 refine FnC.intro ti_ok Tryz.func79 rfl Tryz.ntmps79 Tryz.call79 rfl (Nat.le_of_ble_eq_true rfl) rfl ?_
 have hn := need_ok x.z h1 h2
 rw [hz] at hn
 (repeat' ((conv=>whnf);first|with_reducible refine gA ?_|((with_reducible refine ex_id ?_); refine ⟨[[.it .i64 x.b0], [.it .i64 x.b1]], ⟨by decide +kernel, rfl, by simp, rfl, by decide +kernel⟩, NilS.vec ⟨by with_unfolding_all exact rfl, ?_⟩⟩) | with_reducible refine draw_htree ti_ok mixed [0] riT (by decide +kernel) ?_ | with_reducible exact trivial | with_reducible refine Br.mk ?_ ?_ | ((with_reducible refine CallE.id ?_); first | (refine CallE.con ⟨_, hn, ?_⟩) | refine CallE.inl ?_) | ((with_reducible refine CallI.id ?_); first | with_reducible refine CallI.inl ti_ok i109 rfl ?_ | with_reducible refine CallI.inl ti_ok i112 rfl ?_ | with_reducible refine CallI.inl ti_ok i148 rfl ?_ | with_reducible refine CallI.inl ti_ok i111 rfl ?_ | with_reducible refine CallI.inl ti_ok i113 rfl ?_ | refine CallI.byM (sortI_ok _ _ [x.b0, x.b1] (Nat.le_of_ble_eq_true rfl) (Nat.le_of_ble_eq_true rfl)) (by with_unfolding_all exact rfl) rfl ?_ | refine CallI.byM (compactI_ok _ _ 2 (sortI [x.b0, x.b1]) (by simp [sortI]) (Nat.le_of_ble_eq_true rfl) (Nat.le_of_ble_eq_true rfl)) (by with_unfolding_all exact rfl) rfl ?_) | with_reducible refine LoopS.unroll ti_ok 5 ?_|(with_reducible first|refine gB ?_|refine gZ (fun x hx hu=>?_)|refine gY (fun x hx=>?_)|refine gE ?_|refine Both.mk ?_ ?_|refine gS (fun h=>?_) (fun h=>?_)|refine Spl.nt ?_|refine Spl.mk (fun h=>?_) (fun h=>?_))))
 all_goals try exact bl_ff (by unfold RI; omega)
 all_goals (conv => whnf)
 all_goals refine bl_dec (Iff.trans (show _ ↔ _ by omega) (hd.trans ?_))
 all_goals (unfold RI; simp only [List.nodup_cons, List.mem_cons, List.not_mem_nil, List.nodup_nil, not_or, or_false, false_or, not_false_eq_true, and_true, true_iff, List.nodup_nil, true_and]; omega)
set_option maxHeartbeats 4000000 in
theorem ri3 (x : Ino) (hk : x.k = 1) (h1 : 0 ≤ x.z) (h2 : x.z ≤ 128) (hz : (x.z + 31) / 32 = 3) (hd : ((Lib.compact (sortI [x.b0, x.b1, x.b2])).length = 3 ↔ [x.b0, x.b1, x.b2].Nodup)) : FnC Tryz.prog 79 [.dg 6 (encI x)] (.d (.bl (decide (RI x)))) := by
 refine FnC.intro ti_ok Tryz.func79 rfl Tryz.ntmps79 Tryz.call79 rfl (Nat.le_of_ble_eq_true rfl) rfl ?_
 have hn := need_ok x.z h1 h2
 rw [hz] at hn
 (repeat' ((conv=>whnf);first|with_reducible refine gA ?_|((with_reducible refine ex_id ?_); refine ⟨[[.it .i64 x.b0], [.it .i64 x.b1], [.it .i64 x.b2]], ⟨by decide +kernel, rfl, by simp, rfl, by decide +kernel⟩, NilS.vec ⟨by with_unfolding_all exact rfl, ?_⟩⟩) | with_reducible refine draw_htree ti_ok mixed [0] riT (by decide +kernel) ?_ | with_reducible exact trivial | with_reducible refine Br.mk ?_ ?_ | ((with_reducible refine CallE.id ?_); first | (refine CallE.con ⟨_, hn, ?_⟩) | refine CallE.inl ?_) | ((with_reducible refine CallI.id ?_); first | with_reducible refine CallI.inl ti_ok i109 rfl ?_ | with_reducible refine CallI.inl ti_ok i112 rfl ?_ | with_reducible refine CallI.inl ti_ok i148 rfl ?_ | with_reducible refine CallI.inl ti_ok i111 rfl ?_ | with_reducible refine CallI.inl ti_ok i113 rfl ?_ | refine CallI.byM (sortI_ok _ _ [x.b0, x.b1, x.b2] (Nat.le_of_ble_eq_true rfl) (Nat.le_of_ble_eq_true rfl)) (by with_unfolding_all exact rfl) rfl ?_ | refine CallI.byM (compactI_ok _ _ 3 (sortI [x.b0, x.b1, x.b2]) (by simp [sortI]) (Nat.le_of_ble_eq_true rfl) (Nat.le_of_ble_eq_true rfl)) (by with_unfolding_all exact rfl) rfl ?_) | with_reducible refine LoopS.unroll ti_ok 5 ?_|(with_reducible first|refine gB ?_|refine gZ (fun x hx hu=>?_)|refine gY (fun x hx=>?_)|refine gE ?_|refine Both.mk ?_ ?_|refine gS (fun h=>?_) (fun h=>?_)|refine Spl.nt ?_|refine Spl.mk (fun h=>?_) (fun h=>?_))))
 all_goals try exact bl_ff (by unfold RI; omega)
 all_goals (conv => whnf)
 all_goals refine bl_dec (Iff.trans (show _ ↔ _ by omega) (hd.trans ?_))
 all_goals (unfold RI; simp only [List.nodup_cons, List.mem_cons, List.not_mem_nil, List.nodup_nil, not_or, or_false, false_or, not_false_eq_true, and_true, true_iff, List.nodup_nil, true_and]; omega)
set_option maxHeartbeats 4000000 in
theorem ri4 (x : Ino) (hk : x.k = 1) (h1 : 0 ≤ x.z) (h2 : x.z ≤ 128) (hz : (x.z + 31) / 32 = 4) (hd : ((Lib.compact (sortI [x.b0, x.b1, x.b2, x.b3])).length = 4 ↔ [x.b0, x.b1, x.b2, x.b3].Nodup)) : FnC Tryz.prog 79 [.dg 6 (encI x)] (.d (.bl (decide (RI x)))) := by
 refine FnC.intro ti_ok Tryz.func79 rfl Tryz.ntmps79 Tryz.call79 rfl (Nat.le_of_ble_eq_true rfl) rfl ?_
 have hn := need_ok x.z h1 h2
 rw [hz] at hn
 (repeat' ((conv=>whnf);first|with_reducible refine gA ?_|((with_reducible refine ex_id ?_); refine ⟨[[.it .i64 x.b0], [.it .i64 x.b1], [.it .i64 x.b2], [.it .i64 x.b3]], ⟨by decide +kernel, rfl, by simp, rfl, by decide +kernel⟩, NilS.vec ⟨by with_unfolding_all exact rfl, ?_⟩⟩) | with_reducible refine draw_htree ti_ok mixed [0] riT (by decide +kernel) ?_ | with_reducible exact trivial | with_reducible refine Br.mk ?_ ?_ | ((with_reducible refine CallE.id ?_); first | (refine CallE.con ⟨_, hn, ?_⟩) | refine CallE.inl ?_) | ((with_reducible refine CallI.id ?_); first | with_reducible refine CallI.inl ti_ok i109 rfl ?_ | with_reducible refine CallI.inl ti_ok i112 rfl ?_ | with_reducible refine CallI.inl ti_ok i148 rfl ?_ | with_reducible refine CallI.inl ti_ok i111 rfl ?_ | with_reducible refine CallI.inl ti_ok i113 rfl ?_ | refine CallI.byM (sortI_ok _ _ [x.b0, x.b1, x.b2, x.b3] (Nat.le_of_ble_eq_true rfl) (Nat.le_of_ble_eq_true rfl)) (by with_unfolding_all exact rfl) rfl ?_ | refine CallI.byM (compactI_ok _ _ 4 (sortI [x.b0, x.b1, x.b2, x.b3]) (by simp [sortI]) (Nat.le_of_ble_eq_true rfl) (Nat.le_of_ble_eq_true rfl)) (by with_unfolding_all exact rfl) rfl ?_) | with_reducible refine LoopS.unroll ti_ok 5 ?_|(with_reducible first|refine gB ?_|refine gZ (fun x hx hu=>?_)|refine gY (fun x hx=>?_)|refine gE ?_|refine Both.mk ?_ ?_|refine gS (fun h=>?_) (fun h=>?_)|refine Spl.nt ?_|refine Spl.mk (fun h=>?_) (fun h=>?_))))
 all_goals try exact bl_ff (by unfold RI; omega)
 all_goals (conv => whnf)
 all_goals refine bl_dec (Iff.trans (show _ ↔ _ by omega) (hd.trans ?_))
 all_goals (unfold RI; simp only [List.nodup_cons, List.mem_cons, List.not_mem_nil, List.nodup_nil, not_or, or_false, false_or, not_false_eq_true, and_true, true_iff, List.nodup_nil, true_and]; omega)
end Go.Proofs.YtmfokpfddponjaaGreatDoor
namespace Go.Proofs.YtmfokpfddponjaaGreatDoor
open Go.Sy
theorem sortI_len (l : List Int) : (sortI l).length = l.length := List.length_mergeSort _
theorem sortI_perm (l : List Int) : (sortI l).Perm l := List.mergeSort_perm _ _
theorem sortI_pw (l : List Int) : (sortI l).Pairwise (· ≤ ·) := by
 have := List.pairwise_mergeSort (le := fun x y : Int => decide (x ≤ y)) (fun a b c h1 h2 => by simp only [decide_eq_true_eq] at *; omega) (fun a b => by simp only [Bool.or_eq_true, decide_eq_true_eq]; omega) l
 exact this.imp fun h => by simpa using h
theorem compact_len {zs : List Int} (h : zs.Pairwise (· ≤ ·)) : (Lib.compact zs).length = zs.length ↔ zs.Nodup := by
 have e : (Lib.compact zs).length = zs.length ↔ ∀ j, j < zs.length → Lib.keeps zs.toArray j = true := by
  unfold Lib.compact Lib.compactUpTo
  rw [List.length_map]
  constructor
  ·intro hl j hj
   have hl2 : ((List.range zs.length).filter (Lib.keeps zs.toArray)).length = (List.range zs.length).length := by rw [hl, List.length_range]
   exact List.length_filter_eq_length_iff.1 hl2 j (List.mem_range.2 hj)
  ·intro hk
   rw [List.filter_eq_self.2 (fun j hj => hk j (List.mem_range.1 hj)), List.length_range]
 rw [e]
 have hle := List.pairwise_iff_getElem.1 h
 constructor
 ·intro hk
  refine List.pairwise_iff_getElem.2 fun i j hi hj hij => ?_
  have h1 := hk j hj
  simp only [Lib.keeps, decide_eq_true_eq] at h1
  have h2 : zs[j] ≠ zs[j - 1]'(by omega) := by
   rcases h1 with h1 | h1
   ·omega
   ·simpa [show j < zs.length from hj, show j - 1 < zs.length by omega] using h1
  have h3 := hle (j - 1) j (by omega) hj (by omega)
  by_cases h4 : i = j - 1
  ·subst h4; exact Ne.symm h2
  ·have h5 := hle i (j - 1) hi (by omega) (by omega)
   omega
 ·intro hn j hj
  simp only [Lib.keeps, decide_eq_true_eq]
  rcases Nat.eq_zero_or_pos j with h0 | h0
  ·exact .inl h0
  ·right
   have := List.pairwise_iff_getElem.1 hn (j - 1) j (by omega) hj (by omega)
   simpa [show j < zs.length from hj, show j - 1 < zs.length by omega] using Ne.symm this
theorem sorted_len (l : List Int) {n : Nat} (hl : l.length = n) : (Lib.compact (sortI l)).length = n ↔ l.Nodup := by
 rw [← hl, ← sortI_len l, compact_len (sortI_pw l)]
 exact (sortI_perm l).nodup_iff
theorem eqI6 (a b c d e f a' b' c' d' e' f' : Int) : eqDs [.it .i64 a, .it .i64 b, .it .i64 c, .it .i64 d, .it .i64 e, .it .i64 f] [.it .i64 a', .it .i64 b', .it .i64 c', .it .i64 d', .it .i64 e', .it .i64 f'] = decide (a = a' ∧ b = b' ∧ c = c' ∧ d = d' ∧ e = e' ∧ f = f') := by
 rw [Bool.eq_iff_iff]; simp [eqDs, eqD]
set_option maxHeartbeats 4000000 in
theorem riK (x : Ino) (hk : x.k ≠ 1 ∨ x.z < 0 ∨ 128 < x.z) : FnC Tryz.prog 79 [.dg 6 (encI x)] (.d (.bl (decide (RI x)))) := by
 refine FnC.intro ti_ok Tryz.func79 rfl Tryz.ntmps79 Tryz.call79 rfl (Nat.le_of_ble_eq_true rfl) rfl ?_
 (repeat' ((conv=>whnf);first|with_reducible refine gA ?_|(with_reducible first|refine gB ?_|refine gZ (fun x hx hu=>?_)|refine gY (fun x hx=>?_)|refine gE ?_|refine Both.mk ?_ ?_|refine gS (fun h=>?_) (fun h=>?_)|refine Spl.nt ?_|refine Spl.mk (fun h=>?_) (fun h=>?_))))
 all_goals first
  | exact bl_ff (by unfold RI; omega)
  | exact bl_tr (eqI6 _ _ _ _ _ _ _ _ _ _ _ _) (bl_dec (by unfold RI; omega))
set_option maxHeartbeats 4000000 in
theorem ri0 (x : Ino) (hk : x.k = 1) (h0 : x.z = 0) : FnC Tryz.prog 79 [.dg 6 (encI x)] (.d (.bl (decide (RI x)))) := by
 refine FnC.intro ti_ok Tryz.func79 rfl Tryz.ntmps79 Tryz.call79 rfl (Nat.le_of_ble_eq_true rfl) rfl ?_
 have hn := need_ok x.z (by omega) (by omega)
 rw [show (x.z + 31) / 32 = 0 by omega] at hn
 have hl := len_ok 0 (by decide)
 (repeat' ((conv=>whnf);first|with_reducible refine gA ?_|((with_reducible refine ex_id ?_); refine ⟨[], ⟨by decide +kernel, rfl, by simp, rfl, by decide +kernel⟩, NilS.vec ⟨by with_unfolding_all exact rfl, ?_⟩⟩) | with_reducible refine draw_htree ti_ok mixed [0] riT (by decide +kernel) ?_ | with_reducible exact trivial | with_reducible refine Br.mk ?_ ?_ | ((with_reducible refine CallE.id ?_); first | (refine CallE.con ⟨_, hn, ?_⟩) | (refine CallE.con ⟨_, hl, ?_⟩) | refine CallE.inl ?_) | ((with_reducible refine CallI.id ?_); first | with_reducible refine CallI.inl ti_ok i109 rfl ?_ | with_reducible refine CallI.inl ti_ok i112 rfl ?_ | with_reducible refine CallI.inl ti_ok i148 rfl ?_ | with_reducible refine CallI.inl ti_ok i111 rfl ?_ | with_reducible refine CallI.inl ti_ok i113 rfl ?_ | with_reducible refine CallI.inl ti_ok i114 rfl ?_ | with_reducible refine CallI.inl ti_ok i149 rfl ?_ | with_reducible refine CallI.inl ti_ok i168 rfl ?_ | with_reducible refine CallI.inl ti_ok i115 rfl ?_) | with_reducible refine LoopS.unroll ti_ok 5 ?_|(with_reducible first|refine gB ?_|refine gZ (fun x hx hu=>?_)|refine gY (fun x hx=>?_)|refine gE ?_|refine Both.mk ?_ ?_|refine gS (fun h=>?_) (fun h=>?_)|refine Spl.nt ?_|refine Spl.mk (fun h=>?_) (fun h=>?_))))
 all_goals first
  | exact bl_ff (by unfold RI; omega)
  | exact bl_tt (by unfold RI; omega)
theorem ri_ok (x : Ino) : FnC Tryz.prog 79 [.dg 6 (encI x)] (.d (.bl (decide (RI x)))) := by
 by_cases hk : x.k = 1 ∧ 0 ≤ x.z ∧ x.z ≤ 128
 ·obtain ⟨hk, h0, h1⟩ := hk
  rcases (by omega : x.z = 0 ∨ (x.z + 31) / 32 = 1 ∨ (x.z + 31) / 32 = 2 ∨ (x.z + 31) / 32 = 3 ∨ (x.z + 31) / 32 = 4) with h | h | h | h | h
  ·exact ri0 x hk h
  ·exact ri1 x hk h0 h1 h (sorted_len _ rfl)
  ·exact ri2 x hk h0 h1 h (sorted_len _ rfl)
  ·exact ri3 x hk h0 h1 h (sorted_len _ rfl)
  ·exact ri4 x hk h0 h1 h (sorted_len _ rfl)
 ·exact riK x (by omega)
end Go.Proofs.YtmfokpfddponjaaGreatDoor
namespace Go.Proofs.YtmfokpfddponjaaGreatDoor
open Go.Sy
def inoL (x : Ino) : List Int := [x.k, x.z, x.b0, x.b1, x.b2, x.b3, 0, 0, 0, 0, 0, 0, 0, 0, 0, 0, 0, 0, 0, 0, 0, 0, 0, 0, 0, 0, 0, 0, 0, 0, 0, 0]
def by8 (n : Int) : UInt8 := UInt8.ofNat n.toNat
def inoS (x : Ino) : List UInt8 := (inoL x).map by8
def encL (l : List Int) : List D := l.map (fun n => .it .u8 n)
theorem by8_ok {n : Int} (h : 0 ≤ n ∧ n < 256) : ((by8 n).toNat : Int) = n := by
 unfold by8
 rw [UInt8.toNat_ofNat']
 omega
theorem encL_S : ∀ {l : List Int}, (∀ n ∈ l, 0 ≤ n ∧ n < 256) → encL l = encS (l.map by8)
 | [], _ => rfl
 | n :: l, h => by
  show D.it .u8 n :: encL l = D.it .u8 (by8 n).toNat :: encS (l.map by8)
  rw [by8_ok (h n List.mem_cons_self), encL_S fun m hm => h m (List.mem_cons_of_mem _ hm)]
theorem RI_byte {x : Ino} (h : RI x) : ∀ n ∈ inoL x, 0 ≤ n ∧ n < 256 := by
 intro n hn
 unfold RI at h
 simp only [inoL, List.mem_cons, List.not_mem_nil, or_false] at hn
 omega
def inoR (x : Ino) : AV := if RI x then .tup [.dg 32 (encL (inoL x)), .d (.bl true)] else .tup [.dg 32 (encS zeroS), .d (.bl false)]
def inoT : Tr := (.cons 0 (.cons 1 (.cons 2 (.cons 3 (.cons 4 (.cons 5 (.cons 6 (.cons 7 (.cons 8 (.cons 9 .nil .nil) .nil) .nil) .nil) (.cons 6 (.cons 5 (.cons 7 (.cons 8 (.cons 9 .nil .nil) .nil) .nil) (.cons 7 (.cons 5 (.cons 8 (.cons 9 .nil .nil) .nil) .nil) .nil)) .nil)) (.cons 6 (.cons 4 (.cons 5 (.cons 7 (.cons 8 (.cons 9 .nil .nil) .nil) .nil) (.cons 7 (.cons 5 (.cons 8 (.cons 9 .nil .nil) .nil) .nil) .nil)) (.cons 7 (.cons 4 (.cons 5 (.cons 8 (.cons 9 .nil .nil) .nil) .nil) .nil) .nil)) .nil)) (.cons 6 (.cons 3 (.cons 4 (.cons 5 (.cons 7 (.cons 8 (.cons 9 .nil .nil) .nil) .nil) (.cons 7 (.cons 5 (.cons 8 (.cons 9 .nil .nil) .nil) .nil) .nil)) (.cons 7 (.cons 4 (.cons 5 (.cons 8 (.cons 9 .nil .nil) .nil) .nil) .nil) .nil)) (.cons 7 (.cons 3 (.cons 4 (.cons 5 (.cons 8 (.cons 9 .nil .nil) .nil) .nil) .nil) .nil) .nil)) .nil)) (.cons 3 (.cons 2 (.cons 4 (.cons 5 (.cons 6 (.cons 7 (.cons 8 (.cons 9 .nil .nil) .nil) .nil) .nil) (.cons 6 (.cons 5 (.cons 7 (.cons 8 (.cons 9 .nil .nil) .nil) .nil) (.cons 7 (.cons 5 (.cons 8 (.cons 9 .nil .nil) .nil) .nil) .nil)) .nil)) (.cons 6 (.cons 4 (.cons 5 (.cons 7 (.cons 8 (.cons 9 .nil .nil) .nil) .nil) (.cons 7 (.cons 5 (.cons 8 (.cons 9 .nil .nil) .nil) .nil) .nil)) (.cons 7 (.cons 4 (.cons 5 (.cons 8 (.cons 9 .nil .nil) .nil) .nil) .nil) .nil)) .nil)) (.cons 4 (.cons 2 (.cons 5 (.cons 6 (.cons 7 (.cons 8 (.cons 9 .nil .nil) .nil) .nil) .nil) (.cons 6 (.cons 5 (.cons 7 (.cons 8 (.cons 9 .nil .nil) .nil) .nil) (.cons 7 (.cons 5 (.cons 8 (.cons 9 .nil .nil) .nil) .nil) .nil)) .nil)) (.cons 5 (.cons 2 (.cons 6 (.cons 7 (.cons 8 (.cons 9 .nil .nil) .nil) .nil) .nil) .nil) .nil)) .nil)) .nil)) (.cons 3 (.cons 1 (.cons 2 (.cons 4 (.cons 5 (.cons 6 (.cons 7 (.cons 8 (.cons 9 .nil .nil) .nil) .nil) .nil) (.cons 6 (.cons 5 (.cons 7 (.cons 8 (.cons 9 .nil .nil) .nil) .nil) (.cons 7 (.cons 5 (.cons 8 (.cons 9 .nil .nil) .nil) .nil) .nil)) .nil)) (.cons 6 (.cons 4 (.cons 5 (.cons 7 (.cons 8 (.cons 9 .nil .nil) .nil) .nil) (.cons 7 (.cons 5 (.cons 8 (.cons 9 .nil .nil) .nil) .nil) .nil)) (.cons 7 (.cons 4 (.cons 5 (.cons 8 (.cons 9 .nil .nil) .nil) .nil) .nil) .nil)) .nil)) (.cons 4 (.cons 2 (.cons 5 (.cons 6 (.cons 7 (.cons 8 (.cons 9 .nil .nil) .nil) .nil) .nil) (.cons 6 (.cons 5 (.cons 7 (.cons 8 (.cons 9 .nil .nil) .nil) .nil) (.cons 7 (.cons 5 (.cons 8 (.cons 9 .nil .nil) .nil) .nil) .nil)) .nil)) (.cons 5 (.cons 2 (.cons 6 (.cons 7 (.cons 8 (.cons 9 .nil .nil) .nil) .nil) .nil) .nil) .nil)) .nil)) (.cons 4 (.cons 1 (.cons 2 (.cons 5 (.cons 6 (.cons 7 (.cons 8 (.cons 9 .nil .nil) .nil) .nil) .nil) (.cons 6 (.cons 5 (.cons 7 (.cons 8 (.cons 9 .nil .nil) .nil) .nil) (.cons 7 (.cons 5 (.cons 8 (.cons 9 .nil .nil) .nil) .nil) .nil)) .nil)) (.cons 5 (.cons 2 (.cons 6 (.cons 7 (.cons 8 (.cons 9 .nil .nil) .nil) .nil) .nil) .nil) .nil)) (.cons 5 (.cons 1 (.cons 2 (.cons 6 (.cons 7 (.cons 8 (.cons 9 .nil .nil) .nil) .nil) .nil) .nil) .nil) .nil)) .nil)) .nil)) (.cons 3 (.cons 0 (.cons 1 (.cons 2 (.cons 4 (.cons 5 (.cons 6 (.cons 7 (.cons 8 (.cons 9 .nil .nil) .nil) .nil) .nil) (.cons 6 (.cons 5 (.cons 7 (.cons 8 (.cons 9 .nil .nil) .nil) .nil) (.cons 7 (.cons 5 (.cons 8 (.cons 9 .nil .nil) .nil) .nil) .nil)) .nil)) (.cons 6 (.cons 4 (.cons 5 (.cons 7 (.cons 8 (.cons 9 .nil .nil) .nil) .nil) (.cons 7 (.cons 5 (.cons 8 (.cons 9 .nil .nil) .nil) .nil) .nil)) (.cons 7 (.cons 4 (.cons 5 (.cons 8 (.cons 9 .nil .nil) .nil) .nil) .nil) .nil)) .nil)) (.cons 4 (.cons 2 (.cons 5 (.cons 6 (.cons 7 (.cons 8 (.cons 9 .nil .nil) .nil) .nil) .nil) (.cons 6 (.cons 5 (.cons 7 (.cons 8 (.cons 9 .nil .nil) .nil) .nil) (.cons 7 (.cons 5 (.cons 8 (.cons 9 .nil .nil) .nil) .nil) .nil)) .nil)) (.cons 5 (.cons 2 (.cons 6 (.cons 7 (.cons 8 (.cons 9 .nil .nil) .nil) .nil) .nil) .nil) .nil)) .nil)) (.cons 4 (.cons 1 (.cons 2 (.cons 5 (.cons 6 (.cons 7 (.cons 8 (.cons 9 .nil .nil) .nil) .nil) .nil) (.cons 6 (.cons 5 (.cons 7 (.cons 8 (.cons 9 .nil .nil) .nil) .nil) (.cons 7 (.cons 5 (.cons 8 (.cons 9 .nil .nil) .nil) .nil) .nil)) .nil)) (.cons 5 (.cons 2 (.cons 6 (.cons 7 (.cons 8 (.cons 9 .nil .nil) .nil) .nil) .nil) .nil) .nil)) (.cons 5 (.cons 1 (.cons 2 (.cons 6 (.cons 7 (.cons 8 (.cons 9 .nil .nil) .nil) .nil) .nil) .nil) .nil) .nil)) .nil)) (.cons 4 (.cons 0 (.cons 1 (.cons 2 (.cons 5 (.cons 6 (.cons 7 (.cons 8 (.cons 9 .nil .nil) .nil) .nil) .nil) (.cons 6 (.cons 5 (.cons 7 (.cons 8 (.cons 9 .nil .nil) .nil) .nil) (.cons 7 (.cons 5 (.cons 8 (.cons 9 .nil .nil) .nil) .nil) .nil)) .nil)) (.cons 5 (.cons 2 (.cons 6 (.cons 7 (.cons 8 (.cons 9 .nil .nil) .nil) .nil) .nil) .nil) .nil)) (.cons 5 (.cons 1 (.cons 2 (.cons 6 (.cons 7 (.cons 8 (.cons 9 .nil .nil) .nil) .nil) .nil) .nil) .nil) .nil)) (.cons 5 (.cons 0 (.cons 1 (.cons 2 (.cons 6 (.cons 7 (.cons 8 (.cons 9 .nil .nil) .nil) .nil) .nil) .nil) .nil) .nil) .nil)) .nil)) .nil))
set_option maxHeartbeats 4000000 in
theorem ino_ok (x : Ino) : FnC Tryz.prog 57 [.dg 6 (encI x)] (inoR x) := by
 have hr := ri_ok x
 unfold inoR
 by_cases h : RI x
 ·rw [if_pos h]
  rw [decide_eq_true h] at hr
  have hb := RI_byte h
  have b0 := hb x.k (by simp [inoL])
  have b1 := hb x.z (by simp [inoL])
  have b2 := hb x.b0 (by simp [inoL])
  have b3 := hb x.b1 (by simp [inoL])
  have b4 := hb x.b2 (by simp [inoL])
  have b5 := hb x.b3 (by simp [inoL])
  clear hb
  refine FnC.intro ti_ok Tryz.func57 rfl Tryz.ntmps57 Tryz.call57 rfl (Nat.le_of_ble_eq_true rfl) rfl ?_
  (repeat' ((conv=>whnf);first|with_reducible refine gA ?_|((with_reducible refine CallE.id ?_); (refine CallE.con ⟨_, hr, ?_⟩)) | with_reducible refine AtA.mk' ?_|(with_reducible first|refine gB ?_|refine gZ (fun x hx hu=>?_)|refine gY (fun x hx=>?_)|refine gE ?_|refine Both.mk ?_ ?_|refine gS (fun h=>?_) (fun h=>?_)|refine Spl.nt ?_|refine Spl.mk (fun h=>?_) (fun h=>?_))))
  refine DrawS.join ⟨[(1, .ptr 0 0), (2, .ptr 1 0), (3, .d (.bl false)), (4, .ptr 2 0)], [(0, .cells 6 ((encI x).map .d)), (1, .cells 32 ((encS zeroS).map .d)), (2, .cells 32 ((encL (x.k :: x.z :: List.replicate 30 0)).map .d))], 3⟩ (draw_htree ti_ok mixed [] inoT (by decide +kernel) ?_) ?_
  ·(repeat' ((conv=>whnf);first|with_reducible refine gA ?_|with_reducible refine Br.mk ?_ ?_ | with_reducible exact trivial|(with_reducible first|refine gB ?_|refine gZ (fun x hx hu=>?_)|refine gY (fun x hx=>?_)|refine gE ?_|refine Both.mk ?_ ?_|refine gS (fun h=>?_) (fun h=>?_)|refine Spl.nt ?_|refine Spl.mk (fun h=>?_) (fun h=>?_))))
   all_goals exact Wk.en ⟨And.intro rfl (And.intro rfl (And.intro rfl (And.intro rfl trivial))), And.intro rfl (And.intro rfl (And.intro rfl trivial)), rfl⟩
  (repeat' ((conv=>whnf);first|with_reducible refine gA ?_|with_reducible refine LoopS.unroll ti_ok 5 ?_ | with_reducible refine AtA.mk' ?_|(with_reducible first|refine gB ?_|refine gZ (fun x hx hu=>?_)|refine gY (fun x hx=>?_)|refine gE ?_|refine Both.mk ?_ ?_|refine gS (fun h=>?_) (fun h=>?_)|refine Spl.nt ?_|refine Spl.mk (fun h=>?_) (fun h=>?_))))
  all_goals rfl
 ·rw [if_neg h]
  rw [decide_eq_false h] at hr
  refine FnC.intro ti_ok Tryz.func57 rfl Tryz.ntmps57 Tryz.call57 rfl (Nat.le_of_ble_eq_true rfl) rfl ?_
  (repeat' ((conv=>whnf);first|with_reducible refine gA ?_|((with_reducible refine CallE.id ?_); (refine CallE.con ⟨_, hr, ?_⟩)) | with_reducible refine AtA.mk' ?_|(with_reducible first|refine gB ?_|refine gZ (fun x hx hu=>?_)|refine gY (fun x hx=>?_)|refine gE ?_|refine Both.mk ?_ ?_|refine gS (fun h=>?_) (fun h=>?_)|refine Spl.nt ?_|refine Spl.mk (fun h=>?_) (fun h=>?_))))
  all_goals rfl
end Go.Proofs.YtmfokpfddponjaaGreatDoor
namespace Go.Proofs.YtmfokpfddponjaaGreatDoor
open Go.Sy
def inoOfR (s : List UInt8) : Ino := ⟨(s.getD 0 0).toNat, (s.getD 1 0).toNat, (s.getD 2 0).toNat, (s.getD 3 0).toNat, (s.getD 4 0).toNat, (s.getD 5 0).toNat⟩
def ino0 : Ino := ⟨0, 0, 0, 0, 0, 0⟩
def inoOfV (s : List UInt8) : AV := if RI (inoOfR s) ∧ s = inoS (inoOfR s) then .tup [.dg 6 (encI (inoOfR s)), .d (.bl true)] else .tup [.dg 6 (encI ino0), .d (.bl false)]
theorem byte_at {s : List UInt8} (hs : s.length = 32) (k : Nat) (hk : k < 32) : s[k]? = some (s.getD k 0) := by
 rw [List.getD_eq_getElem?_getD, List.getElem?_eq_getElem (by omega)]; rfl
set_option maxHeartbeats 4000000 in
theorem inoOf_ok (s : List UInt8) (hs : s.length = 32) : FnC Tryz.prog 28 [.dg 32 (encS s)] (inoOfV s) := by
 have hi := ino_ok (inoOfR s)
 unfold inoOfV
 have c0 := (s.getD 0 0).toNat_lt
 have c1 := (s.getD 1 0).toNat_lt
 have c2 := (s.getD 2 0).toNat_lt
 have c3 := (s.getD 3 0).toNat_lt
 have c4 := (s.getD 4 0).toNat_lt
 have c5 := (s.getD 5 0).toNat_lt
 by_cases h : RI (inoOfR s)
 ·rw [inoR, if_pos h, encL_S (RI_byte h)] at hi
  have hil : (inoS (inoOfR s)).length = 32 := rfl
  have he := eqS s (inoS (inoOfR s)) hs
  by_cases h2 : s = inoS (inoOfR s)
  ·rw [decide_eq_true h2] at he
   rw [if_pos ⟨h, h2⟩]
   refine FnC.intro ti_ok Tryz.func28 rfl Tryz.ntmps28 Tryz.call28 rfl (Nat.le_of_ble_eq_true rfl) rfl ?_
   (repeat' ((conv=>whnf);first|with_reducible refine gA ?_|((with_reducible refine CallE.id ?_); (refine CallE.con ⟨_, hi, ?_⟩)) | with_reducible refine LoopS.unroll ti_ok 5 ?_ | refine AtA.eq (ld_byte rfl (byte_at hs 0 (by decide))) ?_ | refine AtA.eq (ld_byte rfl (byte_at hs 1 (by decide))) ?_ | refine AtA.eq (ld_byte rfl (byte_at hs 2 (by decide))) ?_ | refine AtA.eq (ld_byte rfl (byte_at hs 3 (by decide))) ?_ | refine AtA.eq (ld_byte rfl (byte_at hs 4 (by decide))) ?_ | refine AtA.eq (ld_byte rfl (byte_at hs 5 (by decide))) ?_ | refine AtA.eq (ld_sec rfl rfl hs) ?_ | refine AtA.eq (ld_sec rfl rfl hil) ?_ | refine cond_tt (likeSS _ _ hs hil) ?_|(with_reducible first|refine gB ?_|refine gZ (fun x hx hu=>?_)|refine gY (fun x hx=>?_)|refine gE ?_|refine Both.mk ?_ ?_|refine gS (fun h=>?_) (fun h=>?_)|refine Spl.nt ?_|refine Spl.mk (fun h=>?_) (fun h=>?_))))
   all_goals rfl
  ·rw [decide_eq_false h2] at he
   rw [if_neg (fun q => h2 q.2)]
   refine FnC.intro ti_ok Tryz.func28 rfl Tryz.ntmps28 Tryz.call28 rfl (Nat.le_of_ble_eq_true rfl) rfl ?_
   (repeat' ((conv=>whnf);first|with_reducible refine gA ?_|((with_reducible refine CallE.id ?_); (refine CallE.con ⟨_, hi, ?_⟩)) | with_reducible refine LoopS.unroll ti_ok 5 ?_ | refine AtA.eq (ld_byte rfl (byte_at hs 0 (by decide))) ?_ | refine AtA.eq (ld_byte rfl (byte_at hs 1 (by decide))) ?_ | refine AtA.eq (ld_byte rfl (byte_at hs 2 (by decide))) ?_ | refine AtA.eq (ld_byte rfl (byte_at hs 3 (by decide))) ?_ | refine AtA.eq (ld_byte rfl (byte_at hs 4 (by decide))) ?_ | refine AtA.eq (ld_byte rfl (byte_at hs 5 (by decide))) ?_ | refine AtA.eq (ld_sec rfl rfl hs) ?_ | refine AtA.eq (ld_sec rfl rfl hil) ?_ | refine cond_tt (likeSS _ _ hs hil) ?_|(with_reducible first|refine gB ?_|refine gZ (fun x hx hu=>?_)|refine gY (fun x hx=>?_)|refine gE ?_|refine Both.mk ?_ ?_|refine gS (fun h=>?_) (fun h=>?_)|refine Spl.nt ?_|refine Spl.mk (fun h=>?_) (fun h=>?_))))
   all_goals rfl
 ·rw [inoR, if_neg h] at hi
  have hil : zeroS.length = 32 := rfl
  rw [if_neg (fun q => h q.1)]
  refine FnC.intro ti_ok Tryz.func28 rfl Tryz.ntmps28 Tryz.call28 rfl (Nat.le_of_ble_eq_true rfl) rfl ?_
  (repeat' ((conv=>whnf);first|with_reducible refine gA ?_|((with_reducible refine CallE.id ?_); (refine CallE.con ⟨_, hi, ?_⟩)) | with_reducible refine LoopS.unroll ti_ok 5 ?_ | refine AtA.eq (ld_byte rfl (byte_at hs 0 (by decide))) ?_ | refine AtA.eq (ld_byte rfl (byte_at hs 1 (by decide))) ?_ | refine AtA.eq (ld_byte rfl (byte_at hs 2 (by decide))) ?_ | refine AtA.eq (ld_byte rfl (byte_at hs 3 (by decide))) ?_ | refine AtA.eq (ld_byte rfl (byte_at hs 4 (by decide))) ?_ | refine AtA.eq (ld_byte rfl (byte_at hs 5 (by decide))) ?_ | refine AtA.eq (ld_sec rfl rfl hs) ?_ | refine AtA.eq (ld_sec rfl rfl hil) ?_ | refine cond_tt (likeSS _ _ hs hil) ?_|(with_reducible first|refine gB ?_|refine gZ (fun x hx hu=>?_)|refine gY (fun x hx=>?_)|refine gE ?_|refine Both.mk ?_ ?_|refine gS (fun h=>?_) (fun h=>?_)|refine Spl.nt ?_|refine Spl.mk (fun h=>?_) (fun h=>?_))))
  all_goals rfl
end Go.Proofs.YtmfokpfddponjaaGreatDoor
namespace Go.Proofs.YtmfokpfddponjaaGreatDoor
open Go.Sy
end Go.Proofs.YtmfokpfddponjaaGreatDoor
