/- Contracts of the functions that the law reaches, and the law. Conditions: none. -/
import Derived.Test.YtajeadkdacgldaaGreatDoorKB
import Derived.Test.YtajeadkdacgldaaGreatDoorSC
import Derived.Lib.RowBridge
set_option linter.all false
/- Inodes: may they be? Conditions: none. -/
namespace Go.Proofs.YtajeadkdacgldaaGreatDoor
open Go.Sy
set_option maxRecDepth 100000
set_option linter.all false
structure Ino where
  k : Int
  z : Int
  b0 : Int
  b1 : Int
  b2 : Int
  b3 : Int
deriving DecidableEq
def encI (x : Ino) : List D := [.it .i64 x.k, .it .i64 x.z, .it .i64 x.b0, .it .i64 x.b1, .it .i64 x.b2, .it .i64 x.b3]
def RI (x : Ino) : Prop := (x.k = 0 ∨ x.k = 2) ∧ x.z = 0 ∧ x.b0 = 0 ∧ x.b1 = 0 ∧ x.b2 = 0 ∧ x.b3 = 0 ∨
  x.k = 1 ∧ 0 ≤ x.z ∧ x.z ≤ 128 ∧ (0 < x.z → 1 ≤ x.b0 ∧ x.b0 ≤ 24) ∧ (x.z ≤ 0 → x.b0 = 0) ∧ (32 < x.z → 1 ≤ x.b1 ∧ x.b1 ≤ 24 ∧ x.b1 ≠ x.b0) ∧ (x.z ≤ 32 → x.b1 = 0) ∧
  (64 < x.z → 1 ≤ x.b2 ∧ x.b2 ≤ 24 ∧ x.b2 ≠ x.b0 ∧ x.b2 ≠ x.b1) ∧ (x.z ≤ 64 → x.b2 = 0) ∧ (96 < x.z → 1 ≤ x.b3 ∧ x.b3 ≤ 24 ∧ x.b3 ≠ x.b0 ∧ x.b3 ≠ x.b1 ∧ x.b3 ≠ x.b2) ∧ (x.z ≤ 96 → x.b3 = 0)
instance (x : Ino) : Decidable (RI x) := by unfold RI; infer_instance
theorem need_ok (z : Int) (h0 : 0 ≤ z) (h1 : z ≤ 128) : FnC Tryz.prog 137 [.d (.it .i64 z)] (.d (.it .i64 ((z + 31) / 32))) := by
  refine FnC.intro ti_ok Tryz.func137 rfl Tryz.ntmps137 Tryz.call137 rfl (Nat.le_of_ble_eq_true rfl) rfl ?_
  (repeat' ((conv=>whnf);first|with_reducible refine gA ?_|(with_reducible first|refine gB ?_|refine gZ (fun x hx hu=>?_)|refine gY (fun x hx=>?_)|refine gE ?_|refine Both.mk ?_ ?_|refine gS (fun h=>?_) (fun h=>?_)|refine Spl.nt ?_|refine Spl.mk (fun h=>?_) (fun h=>?_))))
  all_goals exact it_eq (by omega)
theorem bl_of {e : Bool} {p : Prop} [Decidable p] (h : e = true ↔ p) : AV.d (.bl e) = AV.d (.bl (decide p)) := by
  have : e = decide p := by rw [Bool.eq_iff_iff, h, decide_eq_true_eq]
  rw [this]
theorem bl_ff {p : Prop} [Decidable p] (h : ¬ p) : AV.d (.bl false) = AV.d (.bl (decide p)) := by rw [decide_eq_false h]
theorem bl_tt {p : Prop} [Decidable p] (h : p) : AV.d (.bl true) = AV.d (.bl (decide p)) := by rw [decide_eq_true h]
theorem bl_dec {p q : Prop} [Decidable p] [Decidable q] (h : p ↔ q) : AV.d (.bl (decide p)) = AV.d (.bl (decide q)) := by
  have : decide p = decide q := by rw [Bool.eq_iff_iff, decide_eq_true_eq, decide_eq_true_eq, h]
  rw [this]
theorem bl_tr {a b : Bool} {v : AV} (h : a = b) (h2 : AV.d (.bl b) = v) : AV.d (.bl a) = v := by rw [h, h2]
end Go.Proofs.YtajeadkdacgldaaGreatDoor

/- bits.Len of small numbers. Conditions: none. -/
namespace Go.Proofs.YtajeadkdacgldaaGreatDoor
open Go.Sy
set_option maxRecDepth 100000
set_option linter.all false
def lenN (n : Nat) : Int := if n = 0 then 0 else if n = 1 then 1 else if n < 4 then 2 else 3
theorem len64_ok (n : Nat) (hn : n ≤ 4) : FnC Tryz.prog 187 [.d (.it .u64 n)] (.d (.it .i64 (lenN n))) := by
  refine FnC.intro ti_ok Tryz.func187 rfl Tryz.ntmps187 Tryz.call187 rfl (Nat.le_of_ble_eq_true rfl) rfl ?_
  match n, hn with
  | 0, _ =>
    (repeat' ((conv=>whnf);first|with_reducible refine gA ?_|refine at_lit (x := (0 : UInt8)) (by decide +kernel) (by decide +kernel) ?_ | with_reducible refine LetI.eq 0 (by with_unfolding_all exact rfl) ?_|(with_reducible first|refine gB ?_|refine gZ (fun x hx hu=>?_)|refine gY (fun x hx=>?_)|refine gE ?_|refine Both.mk ?_ ?_|refine gS (fun h=>?_) (fun h=>?_)|refine Spl.nt ?_|refine Spl.mk (fun h=>?_) (fun h=>?_))))
    with_unfolding_all exact rfl
  | 1, _ =>
    (repeat' ((conv=>whnf);first|with_reducible refine gA ?_|refine at_lit (x := (1 : UInt8)) (by decide +kernel) (by decide +kernel) ?_ | with_reducible refine LetI.eq 1 (by with_unfolding_all exact rfl) ?_|(with_reducible first|refine gB ?_|refine gZ (fun x hx hu=>?_)|refine gY (fun x hx=>?_)|refine gE ?_|refine Both.mk ?_ ?_|refine gS (fun h=>?_) (fun h=>?_)|refine Spl.nt ?_|refine Spl.mk (fun h=>?_) (fun h=>?_))))
    with_unfolding_all exact rfl
  | 2, _ =>
    (repeat' ((conv=>whnf);first|with_reducible refine gA ?_|refine at_lit (x := (2 : UInt8)) (by decide +kernel) (by decide +kernel) ?_ | with_reducible refine LetI.eq 2 (by with_unfolding_all exact rfl) ?_|(with_reducible first|refine gB ?_|refine gZ (fun x hx hu=>?_)|refine gY (fun x hx=>?_)|refine gE ?_|refine Both.mk ?_ ?_|refine gS (fun h=>?_) (fun h=>?_)|refine Spl.nt ?_|refine Spl.mk (fun h=>?_) (fun h=>?_))))
    with_unfolding_all exact rfl
  | 3, _ =>
    (repeat' ((conv=>whnf);first|with_reducible refine gA ?_|refine at_lit (x := (2 : UInt8)) (by decide +kernel) (by decide +kernel) ?_ | with_reducible refine LetI.eq 2 (by with_unfolding_all exact rfl) ?_|(with_reducible first|refine gB ?_|refine gZ (fun x hx hu=>?_)|refine gY (fun x hx=>?_)|refine gE ?_|refine Both.mk ?_ ?_|refine gS (fun h=>?_) (fun h=>?_)|refine Spl.nt ?_|refine Spl.mk (fun h=>?_) (fun h=>?_))))
    with_unfolding_all exact rfl
  | 4, _ =>
    (repeat' ((conv=>whnf);first|with_reducible refine gA ?_|refine at_lit (x := (3 : UInt8)) (by decide +kernel) (by decide +kernel) ?_ | with_reducible refine LetI.eq 3 (by with_unfolding_all exact rfl) ?_|(with_reducible first|refine gB ?_|refine gZ (fun x hx hu=>?_)|refine gY (fun x hx=>?_)|refine gE ?_|refine Both.mk ?_ ?_|refine gS (fun h=>?_) (fun h=>?_)|refine Spl.nt ?_|refine Spl.mk (fun h=>?_) (fun h=>?_))))
    with_unfolding_all exact rfl
theorem len_ok (n : Nat) (hn : n ≤ 4) : FnC Tryz.prog 158 [.d (.it .u64 n)] (.d (.it .i64 (lenN n))) := by
  refine FnC.intro ti_ok Tryz.func158 rfl Tryz.ntmps158 Tryz.call158 rfl (Nat.le_of_ble_eq_true rfl) rfl ?_
  have h := len64_ok n hn
  (repeat' ((conv=>whnf);first|with_reducible refine gA ?_|(refine CallE.con ⟨_, h, ?_⟩) | (refine CallP.mk ⟨_, h, ?_⟩)|(with_reducible first|refine gB ?_|refine gZ (fun x hx hu=>?_)|refine gY (fun x hx=>?_)|refine gE ?_|refine Both.mk ?_ ?_|refine gS (fun h=>?_) (fun h=>?_)|refine Spl.nt ?_|refine Spl.mk (fun h=>?_) (fun h=>?_))))
  rfl
end Go.Proofs.YtajeadkdacgldaaGreatDoor

/- slices.Sort and slices.Compact as contracts of a vector. Conditions: none. -/
namespace Go.Proofs.YtajeadkdacgldaaGreatDoor
open Go.Sy
set_option maxRecDepth 100000
set_option linter.all false
def sortI (l : List Int) : List Int := l.mergeSort fun x y => decide (x ≤ y)
def vI (l : List Int) : List (List D) := l.map fun z => [.it .i64 z]
theorem sortI_ok (t : Nat) (fl : Bool) (zs : List Int) (h0 : 0 < zs.length) (hsz : zs.length < 4611686018427387904) : FnM Tryz.prog 141 true [.vx 1 0 0 zs.length] (.vec t 1 (vI zs) fl) (.vec t 1 (vI (sortI zs)) fl) (.tup []) :=
  FnM.ofRow (Value.int .i64) (fun z => .it .i64 z) (fun F x => .it _ _) (fun F x v h => by cases h; rfl) (m := none) (List.length_mergeSort _) h0 (fun q h => by cases h) Tryz.call141 (fun blk off cap w hH hb hc => (Tryz.slices_Sort_int blk off cap zs w hH hb hsz).mono fun e w' h => h)
theorem compactI_ok (t : Nat) (fl : Bool) (n : Nat) (zs : List Int) (hn : zs.length = n) (h0 : 0 < n) (hsz : n < 4611686018427387904) : FnM Tryz.prog 142 true [.vx 1 0 0 n] (.vec t 1 (vI zs) fl) (.vec t 1 (vI (Lib.compact zs ++ List.replicate (zs.length - (Lib.compact zs).length) 0)) fl) (.vx 1 0 0 (Lib.compact zs).length) := by
  subst hn
  exact FnM.ofRow (Value.int .i64) (fun z => .it .i64 z) (fun F x => .it _ _) (fun F x v h => by cases h; rfl) (m := some (Lib.compact zs).length) (by have := Lib.compact_length_le zs; simp; omega) h0 (fun q h => by cases h; exact Lib.compact_length_le zs) Tryz.call142 (fun blk off cap w hH hb hc => (Tryz.slices_Compact_int blk off cap zs w hH (by omega) hc).mono fun e w' ⟨h1, q, h2⟩ => ⟨h1, q, #[], by rw [Go.Sort.grow_empty]; exact h2⟩)
end Go.Proofs.YtajeadkdacgldaaGreatDoor

/- Inodes: may they be, by the program. Conditions: none. -/
namespace Go.Proofs.YtajeadkdacgldaaGreatDoor
open Go.Sy
set_option maxRecDepth 100000
set_option linter.all false
theorem ex_id {α : Type} {p : α → Prop} (h : ∃ x, p x) : ∃ x, p x := h
theorem _root_.Go.Sy.CallE.id {A B : Prop} (h : CallE A B) : CallE A B := h
theorem _root_.Go.Sy.CallI.id {P : Program} {N : Nat} {o : Oper} {σ : S} {f : Nat} {l : List AV} {K : S → Prop} (h : CallI P N o σ f l K) : CallI P N o σ f l K := h
def riT : Tr := (.cons 0 (.cons 1 (.cons 2 (.cons 3 (.cons 4 (.cons 5 (.cons 6 .nil .nil) .nil) .nil) .nil) .nil) (.cons 2 (.cons 1 (.cons 3 (.cons 4 (.cons 5 (.cons 6 .nil .nil) .nil) .nil) .nil) (.cons 3 (.cons 1 (.cons 4 (.cons 5 (.cons 6 .nil .nil) .nil) .nil) (.cons 4 (.cons 1 (.cons 5 (.cons 6 .nil .nil) .nil) .nil) .nil)) .nil)) .nil)) (.cons 2 (.cons 0 (.cons 1 (.cons 3 (.cons 4 (.cons 5 (.cons 6 .nil .nil) .nil) .nil) .nil) (.cons 3 (.cons 1 (.cons 4 (.cons 5 (.cons 6 .nil .nil) .nil) .nil) (.cons 4 (.cons 1 (.cons 5 (.cons 6 .nil .nil) .nil) .nil) .nil)) .nil)) (.cons 3 (.cons 0 (.cons 1 (.cons 4 (.cons 5 (.cons 6 .nil .nil) .nil) .nil) (.cons 4 (.cons 1 (.cons 5 (.cons 6 .nil .nil) .nil) .nil) .nil)) .nil) .nil)) .nil))
set_option maxHeartbeats 4000000 in
theorem ri1 (x : Ino) (hk : x.k = 1) (h1 : 0 ≤ x.z) (h2 : x.z ≤ 128) (hz : (x.z + 31) / 32 = 1) (hd : ((Lib.compact (sortI [x.b0])).length = 1 ↔ [x.b0].Nodup)) : FnC Tryz.prog 123 [.dg 6 (encI x)] (.d (.bl (decide (RI x)))) := by
  refine FnC.intro ti_ok Tryz.func123 rfl Tryz.ntmps123 Tryz.call123 rfl (Nat.le_of_ble_eq_true rfl) rfl ?_
  have hn := need_ok x.z h1 h2
  rw [hz] at hn
  (repeat' ((conv=>whnf);first|with_reducible refine gA ?_|((with_reducible refine ex_id ?_); refine ⟨[[.it .i64 x.b0]], ⟨by decide +kernel, rfl, by simp, rfl, by decide +kernel⟩, NilS.vec ⟨by with_unfolding_all exact rfl, ?_⟩⟩) | with_reducible refine draw_htree ti_ok mixed [0] riT (by decide +kernel) ?_ | with_reducible exact trivial | with_reducible refine Br.mk ?_ ?_ | ((with_reducible refine CallE.id ?_); first | (refine CallE.con ⟨_, hn, ?_⟩) | refine CallE.inl ?_) | ((with_reducible refine CallI.id ?_); first | with_reducible refine CallI.inl ti_ok i136 rfl ?_ | with_reducible refine CallI.inl ti_ok i139 rfl ?_ | with_reducible refine CallI.inl ti_ok i156 rfl ?_ | with_reducible refine CallI.inl ti_ok i138 rfl ?_ | with_reducible refine CallI.inl ti_ok i140 rfl ?_ | refine CallI.byM (sortI_ok _ _ [x.b0] (Nat.le_of_ble_eq_true rfl) (Nat.le_of_ble_eq_true rfl)) (by with_unfolding_all exact rfl) rfl ?_ | refine CallI.byM (compactI_ok _ _ 1 (sortI [x.b0]) (by simp [sortI]) (Nat.le_of_ble_eq_true rfl) (Nat.le_of_ble_eq_true rfl)) (by with_unfolding_all exact rfl) rfl ?_) | with_reducible refine LoopS.unroll ti_ok 5 ?_|(with_reducible first|refine gB ?_|refine gZ (fun x hx hu=>?_)|refine gY (fun x hx=>?_)|refine gE ?_|refine Both.mk ?_ ?_|refine gS (fun h=>?_) (fun h=>?_)|refine Spl.nt ?_|refine Spl.mk (fun h=>?_) (fun h=>?_))))
  all_goals try exact bl_ff (by unfold RI; omega)
  all_goals (conv => whnf)
  all_goals refine bl_dec (Iff.trans (show _ ↔ _ by omega) (hd.trans ?_))
  all_goals (unfold RI; simp only [List.nodup_cons, List.mem_cons, List.not_mem_nil, List.nodup_nil, not_or, or_false, false_or, not_false_eq_true, and_true, true_iff, List.nodup_nil, true_and]; omega)
set_option maxHeartbeats 4000000 in
theorem ri2 (x : Ino) (hk : x.k = 1) (h1 : 0 ≤ x.z) (h2 : x.z ≤ 128) (hz : (x.z + 31) / 32 = 2) (hd : ((Lib.compact (sortI [x.b0, x.b1])).length = 2 ↔ [x.b0, x.b1].Nodup)) : FnC Tryz.prog 123 [.dg 6 (encI x)] (.d (.bl (decide (RI x)))) := by
  refine FnC.intro ti_ok Tryz.func123 rfl Tryz.ntmps123 Tryz.call123 rfl (Nat.le_of_ble_eq_true rfl) rfl ?_
  have hn := need_ok x.z h1 h2
  rw [hz] at hn
  (repeat' ((conv=>whnf);first|with_reducible refine gA ?_|((with_reducible refine ex_id ?_); refine ⟨[[.it .i64 x.b0], [.it .i64 x.b1]], ⟨by decide +kernel, rfl, by simp, rfl, by decide +kernel⟩, NilS.vec ⟨by with_unfolding_all exact rfl, ?_⟩⟩) | with_reducible refine draw_htree ti_ok mixed [0] riT (by decide +kernel) ?_ | with_reducible exact trivial | with_reducible refine Br.mk ?_ ?_ | ((with_reducible refine CallE.id ?_); first | (refine CallE.con ⟨_, hn, ?_⟩) | refine CallE.inl ?_) | ((with_reducible refine CallI.id ?_); first | with_reducible refine CallI.inl ti_ok i136 rfl ?_ | with_reducible refine CallI.inl ti_ok i139 rfl ?_ | with_reducible refine CallI.inl ti_ok i156 rfl ?_ | with_reducible refine CallI.inl ti_ok i138 rfl ?_ | with_reducible refine CallI.inl ti_ok i140 rfl ?_ | refine CallI.byM (sortI_ok _ _ [x.b0, x.b1] (Nat.le_of_ble_eq_true rfl) (Nat.le_of_ble_eq_true rfl)) (by with_unfolding_all exact rfl) rfl ?_ | refine CallI.byM (compactI_ok _ _ 2 (sortI [x.b0, x.b1]) (by simp [sortI]) (Nat.le_of_ble_eq_true rfl) (Nat.le_of_ble_eq_true rfl)) (by with_unfolding_all exact rfl) rfl ?_) | with_reducible refine LoopS.unroll ti_ok 5 ?_|(with_reducible first|refine gB ?_|refine gZ (fun x hx hu=>?_)|refine gY (fun x hx=>?_)|refine gE ?_|refine Both.mk ?_ ?_|refine gS (fun h=>?_) (fun h=>?_)|refine Spl.nt ?_|refine Spl.mk (fun h=>?_) (fun h=>?_))))
  all_goals try exact bl_ff (by unfold RI; omega)
  all_goals (conv => whnf)
  all_goals refine bl_dec (Iff.trans (show _ ↔ _ by omega) (hd.trans ?_))
  all_goals (unfold RI; simp only [List.nodup_cons, List.mem_cons, List.not_mem_nil, List.nodup_nil, not_or, or_false, false_or, not_false_eq_true, and_true, true_iff, List.nodup_nil, true_and]; omega)
set_option maxHeartbeats 4000000 in
theorem ri3 (x : Ino) (hk : x.k = 1) (h1 : 0 ≤ x.z) (h2 : x.z ≤ 128) (hz : (x.z + 31) / 32 = 3) (hd : ((Lib.compact (sortI [x.b0, x.b1, x.b2])).length = 3 ↔ [x.b0, x.b1, x.b2].Nodup)) : FnC Tryz.prog 123 [.dg 6 (encI x)] (.d (.bl (decide (RI x)))) := by
  refine FnC.intro ti_ok Tryz.func123 rfl Tryz.ntmps123 Tryz.call123 rfl (Nat.le_of_ble_eq_true rfl) rfl ?_
  have hn := need_ok x.z h1 h2
  rw [hz] at hn
  (repeat' ((conv=>whnf);first|with_reducible refine gA ?_|((with_reducible refine ex_id ?_); refine ⟨[[.it .i64 x.b0], [.it .i64 x.b1], [.it .i64 x.b2]], ⟨by decide +kernel, rfl, by simp, rfl, by decide +kernel⟩, NilS.vec ⟨by with_unfolding_all exact rfl, ?_⟩⟩) | with_reducible refine draw_htree ti_ok mixed [0] riT (by decide +kernel) ?_ | with_reducible exact trivial | with_reducible refine Br.mk ?_ ?_ | ((with_reducible refine CallE.id ?_); first | (refine CallE.con ⟨_, hn, ?_⟩) | refine CallE.inl ?_) | ((with_reducible refine CallI.id ?_); first | with_reducible refine CallI.inl ti_ok i136 rfl ?_ | with_reducible refine CallI.inl ti_ok i139 rfl ?_ | with_reducible refine CallI.inl ti_ok i156 rfl ?_ | with_reducible refine CallI.inl ti_ok i138 rfl ?_ | with_reducible refine CallI.inl ti_ok i140 rfl ?_ | refine CallI.byM (sortI_ok _ _ [x.b0, x.b1, x.b2] (Nat.le_of_ble_eq_true rfl) (Nat.le_of_ble_eq_true rfl)) (by with_unfolding_all exact rfl) rfl ?_ | refine CallI.byM (compactI_ok _ _ 3 (sortI [x.b0, x.b1, x.b2]) (by simp [sortI]) (Nat.le_of_ble_eq_true rfl) (Nat.le_of_ble_eq_true rfl)) (by with_unfolding_all exact rfl) rfl ?_) | with_reducible refine LoopS.unroll ti_ok 5 ?_|(with_reducible first|refine gB ?_|refine gZ (fun x hx hu=>?_)|refine gY (fun x hx=>?_)|refine gE ?_|refine Both.mk ?_ ?_|refine gS (fun h=>?_) (fun h=>?_)|refine Spl.nt ?_|refine Spl.mk (fun h=>?_) (fun h=>?_))))
  all_goals try exact bl_ff (by unfold RI; omega)
  all_goals (conv => whnf)
  all_goals refine bl_dec (Iff.trans (show _ ↔ _ by omega) (hd.trans ?_))
  all_goals (unfold RI; simp only [List.nodup_cons, List.mem_cons, List.not_mem_nil, List.nodup_nil, not_or, or_false, false_or, not_false_eq_true, and_true, true_iff, List.nodup_nil, true_and]; omega)
set_option maxHeartbeats 4000000 in
theorem ri4 (x : Ino) (hk : x.k = 1) (h1 : 0 ≤ x.z) (h2 : x.z ≤ 128) (hz : (x.z + 31) / 32 = 4) (hd : ((Lib.compact (sortI [x.b0, x.b1, x.b2, x.b3])).length = 4 ↔ [x.b0, x.b1, x.b2, x.b3].Nodup)) : FnC Tryz.prog 123 [.dg 6 (encI x)] (.d (.bl (decide (RI x)))) := by
  refine FnC.intro ti_ok Tryz.func123 rfl Tryz.ntmps123 Tryz.call123 rfl (Nat.le_of_ble_eq_true rfl) rfl ?_
  have hn := need_ok x.z h1 h2
  rw [hz] at hn
  (repeat' ((conv=>whnf);first|with_reducible refine gA ?_|((with_reducible refine ex_id ?_); refine ⟨[[.it .i64 x.b0], [.it .i64 x.b1], [.it .i64 x.b2], [.it .i64 x.b3]], ⟨by decide +kernel, rfl, by simp, rfl, by decide +kernel⟩, NilS.vec ⟨by with_unfolding_all exact rfl, ?_⟩⟩) | with_reducible refine draw_htree ti_ok mixed [0] riT (by decide +kernel) ?_ | with_reducible exact trivial | with_reducible refine Br.mk ?_ ?_ | ((with_reducible refine CallE.id ?_); first | (refine CallE.con ⟨_, hn, ?_⟩) | refine CallE.inl ?_) | ((with_reducible refine CallI.id ?_); first | with_reducible refine CallI.inl ti_ok i136 rfl ?_ | with_reducible refine CallI.inl ti_ok i139 rfl ?_ | with_reducible refine CallI.inl ti_ok i156 rfl ?_ | with_reducible refine CallI.inl ti_ok i138 rfl ?_ | with_reducible refine CallI.inl ti_ok i140 rfl ?_ | refine CallI.byM (sortI_ok _ _ [x.b0, x.b1, x.b2, x.b3] (Nat.le_of_ble_eq_true rfl) (Nat.le_of_ble_eq_true rfl)) (by with_unfolding_all exact rfl) rfl ?_ | refine CallI.byM (compactI_ok _ _ 4 (sortI [x.b0, x.b1, x.b2, x.b3]) (by simp [sortI]) (Nat.le_of_ble_eq_true rfl) (Nat.le_of_ble_eq_true rfl)) (by with_unfolding_all exact rfl) rfl ?_) | with_reducible refine LoopS.unroll ti_ok 5 ?_|(with_reducible first|refine gB ?_|refine gZ (fun x hx hu=>?_)|refine gY (fun x hx=>?_)|refine gE ?_|refine Both.mk ?_ ?_|refine gS (fun h=>?_) (fun h=>?_)|refine Spl.nt ?_|refine Spl.mk (fun h=>?_) (fun h=>?_))))
  all_goals try exact bl_ff (by unfold RI; omega)
  all_goals (conv => whnf)
  all_goals refine bl_dec (Iff.trans (show _ ↔ _ by omega) (hd.trans ?_))
  all_goals (unfold RI; simp only [List.nodup_cons, List.mem_cons, List.not_mem_nil, List.nodup_nil, not_or, or_false, false_or, not_false_eq_true, and_true, true_iff, List.nodup_nil, true_and]; omega)
end Go.Proofs.YtajeadkdacgldaaGreatDoor

/- Inodes: what they may be, whole; the sorted list without its doubles. Conditions: none. -/
namespace Go.Proofs.YtajeadkdacgldaaGreatDoor
open Go.Sy
set_option maxRecDepth 100000
set_option linter.all false
theorem sortI_len (l : List Int) : (sortI l).length = l.length := List.length_mergeSort _
theorem sortI_perm (l : List Int) : (sortI l).Perm l := List.mergeSort_perm _ _
theorem sortI_pw (l : List Int) : (sortI l).Pairwise (· ≤ ·) := by
  have := List.pairwise_mergeSort (le := fun x y : Int => decide (x ≤ y)) (fun a b c h1 h2 => by simp only [decide_eq_true_eq] at *; omega) (fun a b => by simp only [Bool.or_eq_true, decide_eq_true_eq]; omega) l
  exact this.imp fun h => by simpa using h
theorem compact_len {zs : List Int} (h : zs.Pairwise (· ≤ ·)) : (Lib.compact zs).length = zs.length ↔ zs.Nodup := by
  have e : (Lib.compact zs).length = zs.length ↔ ∀ j, j < zs.length → Lib.keeps zs.toArray j = true := by
    unfold Lib.compact Lib.compactUpTo
    rw [List.length_map]
    constructor
    · intro hl j hj
      have hl2 : ((List.range zs.length).filter (Lib.keeps zs.toArray)).length = (List.range zs.length).length := by rw [hl, List.length_range]
      exact List.length_filter_eq_length_iff.1 hl2 j (List.mem_range.2 hj)
    · intro hk
      rw [List.filter_eq_self.2 (fun j hj => hk j (List.mem_range.1 hj)), List.length_range]
  rw [e]
  have hle := List.pairwise_iff_getElem.1 h
  constructor
  · intro hk
    refine List.pairwise_iff_getElem.2 fun i j hi hj hij => ?_
    have h1 := hk j hj
    simp only [Lib.keeps, decide_eq_true_eq] at h1
    have h2 : zs[j] ≠ zs[j - 1]'(by omega) := by
      rcases h1 with h1 | h1
      · omega
      · simpa [show j < zs.length from hj, show j - 1 < zs.length by omega] using h1
    have h3 := hle (j - 1) j (by omega) hj (by omega)
    by_cases h4 : i = j - 1
    · subst h4; exact Ne.symm h2
    · have h5 := hle i (j - 1) hi (by omega) (by omega)
      omega
  · intro hn j hj
    simp only [Lib.keeps, decide_eq_true_eq]
    rcases Nat.eq_zero_or_pos j with h0 | h0
    · exact .inl h0
    · right
      have := List.pairwise_iff_getElem.1 hn (j - 1) j (by omega) hj (by omega)
      simpa [show j < zs.length from hj, show j - 1 < zs.length by omega] using Ne.symm this
theorem sorted_len (l : List Int) {n : Nat} (hl : l.length = n) : (Lib.compact (sortI l)).length = n ↔ l.Nodup := by
  rw [← hl, ← sortI_len l, compact_len (sortI_pw l)]
  exact (sortI_perm l).nodup_iff
theorem eqI6 (a b c d e f a' b' c' d' e' f' : Int) : eqDs [.it .i64 a, .it .i64 b, .it .i64 c, .it .i64 d, .it .i64 e, .it .i64 f] [.it .i64 a', .it .i64 b', .it .i64 c', .it .i64 d', .it .i64 e', .it .i64 f'] = decide (a = a' ∧ b = b' ∧ c = c' ∧ d = d' ∧ e = e' ∧ f = f') := by
  rw [Bool.eq_iff_iff]; simp [eqDs, eqD]
set_option maxHeartbeats 4000000 in
theorem riK (x : Ino) (hk : x.k ≠ 1 ∨ x.z < 0 ∨ 128 < x.z) : FnC Tryz.prog 123 [.dg 6 (encI x)] (.d (.bl (decide (RI x)))) := by
  refine FnC.intro ti_ok Tryz.func123 rfl Tryz.ntmps123 Tryz.call123 rfl (Nat.le_of_ble_eq_true rfl) rfl ?_
  (repeat' ((conv=>whnf);first|with_reducible refine gA ?_|(with_reducible first|refine gB ?_|refine gZ (fun x hx hu=>?_)|refine gY (fun x hx=>?_)|refine gE ?_|refine Both.mk ?_ ?_|refine gS (fun h=>?_) (fun h=>?_)|refine Spl.nt ?_|refine Spl.mk (fun h=>?_) (fun h=>?_))))
  all_goals first
    | exact bl_ff (by unfold RI; omega)
    | exact bl_tr (eqI6 _ _ _ _ _ _ _ _ _ _ _ _) (bl_dec (by unfold RI; omega))
set_option maxHeartbeats 4000000 in
theorem ri0 (x : Ino) (hk : x.k = 1) (h0 : x.z = 0) : FnC Tryz.prog 123 [.dg 6 (encI x)] (.d (.bl (decide (RI x)))) := by
  refine FnC.intro ti_ok Tryz.func123 rfl Tryz.ntmps123 Tryz.call123 rfl (Nat.le_of_ble_eq_true rfl) rfl ?_
  have hn := need_ok x.z (by omega) (by omega)
  rw [show (x.z + 31) / 32 = 0 by omega] at hn
  have hl := len_ok 0 (by decide)
  (repeat' ((conv=>whnf);first|with_reducible refine gA ?_|((with_reducible refine ex_id ?_); refine ⟨[], ⟨by decide +kernel, rfl, by simp, rfl, by decide +kernel⟩, NilS.vec ⟨by with_unfolding_all exact rfl, ?_⟩⟩) | with_reducible refine draw_htree ti_ok mixed [0] riT (by decide +kernel) ?_ | with_reducible exact trivial | with_reducible refine Br.mk ?_ ?_ | ((with_reducible refine CallE.id ?_); first | (refine CallE.con ⟨_, hn, ?_⟩) | (refine CallE.con ⟨_, hl, ?_⟩) | refine CallE.inl ?_) | ((with_reducible refine CallI.id ?_); first | with_reducible refine CallI.inl ti_ok i136 rfl ?_ | with_reducible refine CallI.inl ti_ok i139 rfl ?_ | with_reducible refine CallI.inl ti_ok i156 rfl ?_ | with_reducible refine CallI.inl ti_ok i138 rfl ?_ | with_reducible refine CallI.inl ti_ok i140 rfl ?_ | with_reducible refine CallI.inl ti_ok i141 rfl ?_ | with_reducible refine CallI.inl ti_ok i157 rfl ?_ | with_reducible refine CallI.inl ti_ok i177 rfl ?_ | with_reducible refine CallI.inl ti_ok i142 rfl ?_) | with_reducible refine LoopS.unroll ti_ok 5 ?_|(with_reducible first|refine gB ?_|refine gZ (fun x hx hu=>?_)|refine gY (fun x hx=>?_)|refine gE ?_|refine Both.mk ?_ ?_|refine gS (fun h=>?_) (fun h=>?_)|refine Spl.nt ?_|refine Spl.mk (fun h=>?_) (fun h=>?_))))
  all_goals first
    | exact bl_ff (by unfold RI; omega)
    | exact bl_tt (by unfold RI; omega)
theorem ri_ok (x : Ino) : FnC Tryz.prog 123 [.dg 6 (encI x)] (.d (.bl (decide (RI x)))) := by
  by_cases hk : x.k = 1 ∧ 0 ≤ x.z ∧ x.z ≤ 128
  · obtain ⟨hk, h0, h1⟩ := hk
    rcases (by omega : x.z = 0 ∨ (x.z + 31) / 32 = 1 ∨ (x.z + 31) / 32 = 2 ∨ (x.z + 31) / 32 = 3 ∨ (x.z + 31) / 32 = 4) with h | h | h | h | h
    · exact ri0 x hk h
    · exact ri1 x hk h0 h1 h (sorted_len _ rfl)
    · exact ri2 x hk h0 h1 h (sorted_len _ rfl)
    · exact ri3 x hk h0 h1 h (sorted_len _ rfl)
    · exact ri4 x hk h0 h1 h (sorted_len _ rfl)
  · exact riK x (by omega)
end Go.Proofs.YtajeadkdacgldaaGreatDoor

/- Inodes as sectors. Conditions: none. -/
namespace Go.Proofs.YtajeadkdacgldaaGreatDoor
open Go.Sy
set_option maxRecDepth 100000
set_option linter.all false
def inoL (x : Ino) : List Int := [x.k, x.z, x.b0, x.b1, x.b2, x.b3, 0, 0, 0, 0, 0, 0, 0, 0, 0, 0, 0, 0, 0, 0, 0, 0, 0, 0, 0, 0, 0, 0, 0, 0, 0, 0]
def by8 (n : Int) : UInt8 := UInt8.ofNat n.toNat
def inoS (x : Ino) : List UInt8 := (inoL x).map by8
def encL (l : List Int) : List D := l.map (fun n => .it .u8 n)
theorem by8_ok {n : Int} (h : 0 ≤ n ∧ n < 256) : ((by8 n).toNat : Int) = n := by
  unfold by8
  rw [UInt8.toNat_ofNat']
  omega
theorem encL_S : ∀ {l : List Int}, (∀ n ∈ l, 0 ≤ n ∧ n < 256) → encL l = encS (l.map by8)
  | [], _ => rfl
  | n :: l, h => by
    show D.it .u8 n :: encL l = D.it .u8 (by8 n).toNat :: encS (l.map by8)
    rw [by8_ok (h n List.mem_cons_self), encL_S fun m hm => h m (List.mem_cons_of_mem _ hm)]
theorem RI_byte {x : Ino} (h : RI x) : ∀ n ∈ inoL x, 0 ≤ n ∧ n < 256 := by
  intro n hn
  unfold RI at h
  simp only [inoL, List.mem_cons, List.not_mem_nil, or_false] at hn
  omega
def inoR (x : Ino) : AV := if RI x then .tup [.dg 32 (encL (inoL x)), .d (.bl true)] else .tup [.dg 32 (encS zeroS), .d (.bl false)]
def inoT : Tr := (.cons 0 (.cons 1 (.cons 2 (.cons 3 (.cons 4 (.cons 5 (.cons 6 (.cons 7 (.cons 8 (.cons 9 .nil .nil) .nil) .nil) .nil) (.cons 6 (.cons 5 (.cons 7 (.cons 8 (.cons 9 .nil .nil) .nil) .nil) (.cons 7 (.cons 5 (.cons 8 (.cons 9 .nil .nil) .nil) .nil) .nil)) .nil)) (.cons 6 (.cons 4 (.cons 5 (.cons 7 (.cons 8 (.cons 9 .nil .nil) .nil) .nil) (.cons 7 (.cons 5 (.cons 8 (.cons 9 .nil .nil) .nil) .nil) .nil)) (.cons 7 (.cons 4 (.cons 5 (.cons 8 (.cons 9 .nil .nil) .nil) .nil) .nil) .nil)) .nil)) (.cons 6 (.cons 3 (.cons 4 (.cons 5 (.cons 7 (.cons 8 (.cons 9 .nil .nil) .nil) .nil) (.cons 7 (.cons 5 (.cons 8 (.cons 9 .nil .nil) .nil) .nil) .nil)) (.cons 7 (.cons 4 (.cons 5 (.cons 8 (.cons 9 .nil .nil) .nil) .nil) .nil) .nil)) (.cons 7 (.cons 3 (.cons 4 (.cons 5 (.cons 8 (.cons 9 .nil .nil) .nil) .nil) .nil) .nil) .nil)) .nil)) (.cons 3 (.cons 2 (.cons 4 (.cons 5 (.cons 6 (.cons 7 (.cons 8 (.cons 9 .nil .nil) .nil) .nil) .nil) (.cons 6 (.cons 5 (.cons 7 (.cons 8 (.cons 9 .nil .nil) .nil) .nil) (.cons 7 (.cons 5 (.cons 8 (.cons 9 .nil .nil) .nil) .nil) .nil)) .nil)) (.cons 6 (.cons 4 (.cons 5 (.cons 7 (.cons 8 (.cons 9 .nil .nil) .nil) .nil) (.cons 7 (.cons 5 (.cons 8 (.cons 9 .nil .nil) .nil) .nil) .nil)) (.cons 7 (.cons 4 (.cons 5 (.cons 8 (.cons 9 .nil .nil) .nil) .nil) .nil) .nil)) .nil)) (.cons 4 (.cons 2 (.cons 5 (.cons 6 (.cons 7 (.cons 8 (.cons 9 .nil .nil) .nil) .nil) .nil) (.cons 6 (.cons 5 (.cons 7 (.cons 8 (.cons 9 .nil .nil) .nil) .nil) (.cons 7 (.cons 5 (.cons 8 (.cons 9 .nil .nil) .nil) .nil) .nil)) .nil)) (.cons 5 (.cons 2 (.cons 6 (.cons 7 (.cons 8 (.cons 9 .nil .nil) .nil) .nil) .nil) .nil) .nil)) .nil)) .nil)) (.cons 3 (.cons 1 (.cons 2 (.cons 4 (.cons 5 (.cons 6 (.cons 7 (.cons 8 (.cons 9 .nil .nil) .nil) .nil) .nil) (.cons 6 (.cons 5 (.cons 7 (.cons 8 (.cons 9 .nil .nil) .nil) .nil) (.cons 7 (.cons 5 (.cons 8 (.cons 9 .nil .nil) .nil) .nil) .nil)) .nil)) (.cons 6 (.cons 4 (.cons 5 (.cons 7 (.cons 8 (.cons 9 .nil .nil) .nil) .nil) (.cons 7 (.cons 5 (.cons 8 (.cons 9 .nil .nil) .nil) .nil) .nil)) (.cons 7 (.cons 4 (.cons 5 (.cons 8 (.cons 9 .nil .nil) .nil) .nil) .nil) .nil)) .nil)) (.cons 4 (.cons 2 (.cons 5 (.cons 6 (.cons 7 (.cons 8 (.cons 9 .nil .nil) .nil) .nil) .nil) (.cons 6 (.cons 5 (.cons 7 (.cons 8 (.cons 9 .nil .nil) .nil) .nil) (.cons 7 (.cons 5 (.cons 8 (.cons 9 .nil .nil) .nil) .nil) .nil)) .nil)) (.cons 5 (.cons 2 (.cons 6 (.cons 7 (.cons 8 (.cons 9 .nil .nil) .nil) .nil) .nil) .nil) .nil)) .nil)) (.cons 4 (.cons 1 (.cons 2 (.cons 5 (.cons 6 (.cons 7 (.cons 8 (.cons 9 .nil .nil) .nil) .nil) .nil) (.cons 6 (.cons 5 (.cons 7 (.cons 8 (.cons 9 .nil .nil) .nil) .nil) (.cons 7 (.cons 5 (.cons 8 (.cons 9 .nil .nil) .nil) .nil) .nil)) .nil)) (.cons 5 (.cons 2 (.cons 6 (.cons 7 (.cons 8 (.cons 9 .nil .nil) .nil) .nil) .nil) .nil) .nil)) (.cons 5 (.cons 1 (.cons 2 (.cons 6 (.cons 7 (.cons 8 (.cons 9 .nil .nil) .nil) .nil) .nil) .nil) .nil) .nil)) .nil)) .nil)) (.cons 3 (.cons 0 (.cons 1 (.cons 2 (.cons 4 (.cons 5 (.cons 6 (.cons 7 (.cons 8 (.cons 9 .nil .nil) .nil) .nil) .nil) (.cons 6 (.cons 5 (.cons 7 (.cons 8 (.cons 9 .nil .nil) .nil) .nil) (.cons 7 (.cons 5 (.cons 8 (.cons 9 .nil .nil) .nil) .nil) .nil)) .nil)) (.cons 6 (.cons 4 (.cons 5 (.cons 7 (.cons 8 (.cons 9 .nil .nil) .nil) .nil) (.cons 7 (.cons 5 (.cons 8 (.cons 9 .nil .nil) .nil) .nil) .nil)) (.cons 7 (.cons 4 (.cons 5 (.cons 8 (.cons 9 .nil .nil) .nil) .nil) .nil) .nil)) .nil)) (.cons 4 (.cons 2 (.cons 5 (.cons 6 (.cons 7 (.cons 8 (.cons 9 .nil .nil) .nil) .nil) .nil) (.cons 6 (.cons 5 (.cons 7 (.cons 8 (.cons 9 .nil .nil) .nil) .nil) (.cons 7 (.cons 5 (.cons 8 (.cons 9 .nil .nil) .nil) .nil) .nil)) .nil)) (.cons 5 (.cons 2 (.cons 6 (.cons 7 (.cons 8 (.cons 9 .nil .nil) .nil) .nil) .nil) .nil) .nil)) .nil)) (.cons 4 (.cons 1 (.cons 2 (.cons 5 (.cons 6 (.cons 7 (.cons 8 (.cons 9 .nil .nil) .nil) .nil) .nil) (.cons 6 (.cons 5 (.cons 7 (.cons 8 (.cons 9 .nil .nil) .nil) .nil) (.cons 7 (.cons 5 (.cons 8 (.cons 9 .nil .nil) .nil) .nil) .nil)) .nil)) (.cons 5 (.cons 2 (.cons 6 (.cons 7 (.cons 8 (.cons 9 .nil .nil) .nil) .nil) .nil) .nil) .nil)) (.cons 5 (.cons 1 (.cons 2 (.cons 6 (.cons 7 (.cons 8 (.cons 9 .nil .nil) .nil) .nil) .nil) .nil) .nil) .nil)) .nil)) (.cons 4 (.cons 0 (.cons 1 (.cons 2 (.cons 5 (.cons 6 (.cons 7 (.cons 8 (.cons 9 .nil .nil) .nil) .nil) .nil) (.cons 6 (.cons 5 (.cons 7 (.cons 8 (.cons 9 .nil .nil) .nil) .nil) (.cons 7 (.cons 5 (.cons 8 (.cons 9 .nil .nil) .nil) .nil) .nil)) .nil)) (.cons 5 (.cons 2 (.cons 6 (.cons 7 (.cons 8 (.cons 9 .nil .nil) .nil) .nil) .nil) .nil) .nil)) (.cons 5 (.cons 1 (.cons 2 (.cons 6 (.cons 7 (.cons 8 (.cons 9 .nil .nil) .nil) .nil) .nil) .nil) .nil) .nil)) (.cons 5 (.cons 0 (.cons 1 (.cons 2 (.cons 6 (.cons 7 (.cons 8 (.cons 9 .nil .nil) .nil) .nil) .nil) .nil) .nil) .nil) .nil)) .nil)) .nil))
set_option maxHeartbeats 4000000 in
theorem ino_ok (x : Ino) : FnC Tryz.prog 111 [.dg 6 (encI x)] (inoR x) := by
  have hr := ri_ok x
  unfold inoR
  by_cases h : RI x
  · rw [if_pos h]
    rw [decide_eq_true h] at hr
    have hb := RI_byte h
    have b0 := hb x.k (by simp [inoL])
    have b1 := hb x.z (by simp [inoL])
    have b2 := hb x.b0 (by simp [inoL])
    have b3 := hb x.b1 (by simp [inoL])
    have b4 := hb x.b2 (by simp [inoL])
    have b5 := hb x.b3 (by simp [inoL])
    clear hb
    refine FnC.intro ti_ok Tryz.func111 rfl Tryz.ntmps111 Tryz.call111 rfl (Nat.le_of_ble_eq_true rfl) rfl ?_
    (repeat' ((conv=>whnf);first|with_reducible refine gA ?_|((with_reducible refine CallE.id ?_); (refine CallE.con ⟨_, hr, ?_⟩)) | with_reducible refine AtA.mk' ?_|(with_reducible first|refine gB ?_|refine gZ (fun x hx hu=>?_)|refine gY (fun x hx=>?_)|refine gE ?_|refine Both.mk ?_ ?_|refine gS (fun h=>?_) (fun h=>?_)|refine Spl.nt ?_|refine Spl.mk (fun h=>?_) (fun h=>?_))))
    refine DrawS.join ⟨[(1, .ptr 0 0), (2, .ptr 1 0), (3, .d (.bl false)), (4, .ptr 2 0)], [(0, .cells 6 ((encI x).map .d)), (1, .cells 32 ((encS zeroS).map .d)), (2, .cells 32 ((encL (x.k :: x.z :: List.replicate 30 0)).map .d))], 3⟩ (draw_htree ti_ok mixed [] inoT (by decide +kernel) ?_) ?_
    · (repeat' ((conv=>whnf);first|with_reducible refine gA ?_|with_reducible refine Br.mk ?_ ?_ | with_reducible exact trivial|(with_reducible first|refine gB ?_|refine gZ (fun x hx hu=>?_)|refine gY (fun x hx=>?_)|refine gE ?_|refine Both.mk ?_ ?_|refine gS (fun h=>?_) (fun h=>?_)|refine Spl.nt ?_|refine Spl.mk (fun h=>?_) (fun h=>?_))))
      all_goals exact Wk.en ⟨And.intro rfl (And.intro rfl (And.intro rfl (And.intro rfl trivial))), And.intro rfl (And.intro rfl (And.intro rfl trivial)), rfl⟩
    (repeat' ((conv=>whnf);first|with_reducible refine gA ?_|with_reducible refine LoopS.unroll ti_ok 5 ?_ | with_reducible refine AtA.mk' ?_|(with_reducible first|refine gB ?_|refine gZ (fun x hx hu=>?_)|refine gY (fun x hx=>?_)|refine gE ?_|refine Both.mk ?_ ?_|refine gS (fun h=>?_) (fun h=>?_)|refine Spl.nt ?_|refine Spl.mk (fun h=>?_) (fun h=>?_))))
    all_goals rfl
  · rw [if_neg h]
    rw [decide_eq_false h] at hr
    refine FnC.intro ti_ok Tryz.func111 rfl Tryz.ntmps111 Tryz.call111 rfl (Nat.le_of_ble_eq_true rfl) rfl ?_
    (repeat' ((conv=>whnf);first|with_reducible refine gA ?_|((with_reducible refine CallE.id ?_); (refine CallE.con ⟨_, hr, ?_⟩)) | with_reducible refine AtA.mk' ?_|(with_reducible first|refine gB ?_|refine gZ (fun x hx hu=>?_)|refine gY (fun x hx=>?_)|refine gE ?_|refine Both.mk ?_ ?_|refine gS (fun h=>?_) (fun h=>?_)|refine Spl.nt ?_|refine Spl.mk (fun h=>?_) (fun h=>?_))))
    all_goals rfl
end Go.Proofs.YtajeadkdacgldaaGreatDoor

/- Inodes out of sectors. Conditions: none. -/
namespace Go.Proofs.YtajeadkdacgldaaGreatDoor
open Go.Sy
set_option maxRecDepth 100000
set_option linter.all false
def inoOfR (s : List UInt8) : Ino := ⟨(s.getD 0 0).toNat, (s.getD 1 0).toNat, (s.getD 2 0).toNat, (s.getD 3 0).toNat, (s.getD 4 0).toNat, (s.getD 5 0).toNat⟩
def ino0 : Ino := ⟨0, 0, 0, 0, 0, 0⟩
/-- What a sector tells of an inode. -/
def inoOfV (s : List UInt8) : AV := if RI (inoOfR s) ∧ s = inoS (inoOfR s) then .tup [.dg 6 (encI (inoOfR s)), .d (.bl true)] else .tup [.dg 6 (encI ino0), .d (.bl false)]
theorem byte_at {s : List UInt8} (hs : s.length = 32) (k : Nat) (hk : k < 32) : s[k]? = some (s.getD k 0) := by
  rw [List.getD_eq_getElem?_getD, List.getElem?_eq_getElem (by omega)]; rfl
set_option maxHeartbeats 4000000 in
theorem inoOf_ok (s : List UInt8) (hs : s.length = 32) : FnC Tryz.prog 89 [.dg 32 (encS s)] (inoOfV s) := by
  have hi := ino_ok (inoOfR s)
  unfold inoOfV
  have c0 := (s.getD 0 0).toNat_lt
  have c1 := (s.getD 1 0).toNat_lt
  have c2 := (s.getD 2 0).toNat_lt
  have c3 := (s.getD 3 0).toNat_lt
  have c4 := (s.getD 4 0).toNat_lt
  have c5 := (s.getD 5 0).toNat_lt
  by_cases h : RI (inoOfR s)
  · rw [inoR, if_pos h, encL_S (RI_byte h)] at hi
    have hil : (inoS (inoOfR s)).length = 32 := rfl
    have he := eqS s (inoS (inoOfR s)) hs
    by_cases h2 : s = inoS (inoOfR s)
    · rw [decide_eq_true h2] at he
      rw [if_pos ⟨h, h2⟩]
      refine FnC.intro ti_ok Tryz.func89 rfl Tryz.ntmps89 Tryz.call89 rfl (Nat.le_of_ble_eq_true rfl) rfl ?_
      (repeat' ((conv=>whnf);first|with_reducible refine gA ?_|((with_reducible refine CallE.id ?_); (refine CallE.con ⟨_, hi, ?_⟩)) | with_reducible refine LoopS.unroll ti_ok 5 ?_ | refine AtA.eq (ld_byte rfl (byte_at hs 0 (by decide))) ?_ | refine AtA.eq (ld_byte rfl (byte_at hs 1 (by decide))) ?_ | refine AtA.eq (ld_byte rfl (byte_at hs 2 (by decide))) ?_ | refine AtA.eq (ld_byte rfl (byte_at hs 3 (by decide))) ?_ | refine AtA.eq (ld_byte rfl (byte_at hs 4 (by decide))) ?_ | refine AtA.eq (ld_byte rfl (byte_at hs 5 (by decide))) ?_ | refine AtA.eq (ld_sec rfl rfl hs) ?_ | refine AtA.eq (ld_sec rfl rfl hil) ?_ | refine cond_tt (likeSS _ _ hs hil) ?_|(with_reducible first|refine gB ?_|refine gZ (fun x hx hu=>?_)|refine gY (fun x hx=>?_)|refine gE ?_|refine Both.mk ?_ ?_|refine gS (fun h=>?_) (fun h=>?_)|refine Spl.nt ?_|refine Spl.mk (fun h=>?_) (fun h=>?_))))
      all_goals rfl
    · rw [decide_eq_false h2] at he
      rw [if_neg (fun q => h2 q.2)]
      refine FnC.intro ti_ok Tryz.func89 rfl Tryz.ntmps89 Tryz.call89 rfl (Nat.le_of_ble_eq_true rfl) rfl ?_
      (repeat' ((conv=>whnf);first|with_reducible refine gA ?_|((with_reducible refine CallE.id ?_); (refine CallE.con ⟨_, hi, ?_⟩)) | with_reducible refine LoopS.unroll ti_ok 5 ?_ | refine AtA.eq (ld_byte rfl (byte_at hs 0 (by decide))) ?_ | refine AtA.eq (ld_byte rfl (byte_at hs 1 (by decide))) ?_ | refine AtA.eq (ld_byte rfl (byte_at hs 2 (by decide))) ?_ | refine AtA.eq (ld_byte rfl (byte_at hs 3 (by decide))) ?_ | refine AtA.eq (ld_byte rfl (byte_at hs 4 (by decide))) ?_ | refine AtA.eq (ld_byte rfl (byte_at hs 5 (by decide))) ?_ | refine AtA.eq (ld_sec rfl rfl hs) ?_ | refine AtA.eq (ld_sec rfl rfl hil) ?_ | refine cond_tt (likeSS _ _ hs hil) ?_|(with_reducible first|refine gB ?_|refine gZ (fun x hx hu=>?_)|refine gY (fun x hx=>?_)|refine gE ?_|refine Both.mk ?_ ?_|refine gS (fun h=>?_) (fun h=>?_)|refine Spl.nt ?_|refine Spl.mk (fun h=>?_) (fun h=>?_))))
      all_goals rfl
  · rw [inoR, if_neg h] at hi
    have hil : zeroS.length = 32 := rfl
    rw [if_neg (fun q => h q.1)]
    refine FnC.intro ti_ok Tryz.func89 rfl Tryz.ntmps89 Tryz.call89 rfl (Nat.le_of_ble_eq_true rfl) rfl ?_
    (repeat' ((conv=>whnf);first|with_reducible refine gA ?_|((with_reducible refine CallE.id ?_); (refine CallE.con ⟨_, hi, ?_⟩)) | with_reducible refine LoopS.unroll ti_ok 5 ?_ | refine AtA.eq (ld_byte rfl (byte_at hs 0 (by decide))) ?_ | refine AtA.eq (ld_byte rfl (byte_at hs 1 (by decide))) ?_ | refine AtA.eq (ld_byte rfl (byte_at hs 2 (by decide))) ?_ | refine AtA.eq (ld_byte rfl (byte_at hs 3 (by decide))) ?_ | refine AtA.eq (ld_byte rfl (byte_at hs 4 (by decide))) ?_ | refine AtA.eq (ld_byte rfl (byte_at hs 5 (by decide))) ?_ | refine AtA.eq (ld_sec rfl rfl hs) ?_ | refine AtA.eq (ld_sec rfl rfl hil) ?_ | refine cond_tt (likeSS _ _ hs hil) ?_|(with_reducible first|refine gB ?_|refine gZ (fun x hx hu=>?_)|refine gY (fun x hx=>?_)|refine gE ?_|refine Both.mk ?_ ?_|refine gS (fun h=>?_) (fun h=>?_)|refine Spl.nt ?_|refine Spl.mk (fun h=>?_) (fun h=>?_))))
    all_goals rfl
end Go.Proofs.YtajeadkdacgldaaGreatDoor

/- Inodes out of sectors, by the document's answer. Conditions: none. -/
namespace Go.Proofs.YtajeadkdacgldaaGreatDoor
open Go.Sy
set_option maxRecDepth 100000
set_option linter.all false
end Go.Proofs.YtajeadkdacgldaaGreatDoor

/- Entries out of sectors. Conditions: none. -/
namespace Go.Proofs.YtajeadkdacgldaaGreatDoor
open Go.Sy
set_option maxRecDepth 100000
set_option linter.all false
def entNm (s : List UInt8) : List UInt8 := if (s.getD 3 0).toNat ≤ 16 then (s.drop 16).take (s.getD 3 0).toNat else []
def entOfR (s : List UInt8) : Ent := ⟨true, (s.getD 1 0).toNat, entNm s, (s.getD 2 0).toNat⟩
def ent0 : Ent := ⟨false, 0, [], 0⟩
def isEnt (s : List UInt8) : Prop := RE (entOfR s) ∧ s = entS (entOfR s)
instance (s : List UInt8) : Decidable (isEnt s) := by unfold isEnt; infer_instance
/-- What a sector tells of an entry. -/
def entOf (s : List UInt8) : Ent := if isEnt s then entOfR s else ent0
end Go.Proofs.YtajeadkdacgldaaGreatDoor

/- Entries out of sectors, by the document's answer. Conditions: none. -/
namespace Go.Proofs.YtajeadkdacgldaaGreatDoor
open Go.Sy
set_option maxRecDepth 100000
set_option linter.all false
end Go.Proofs.YtajeadkdacgldaaGreatDoor

/- Disks as data; a sector read. Conditions: none. -/
namespace Go.Proofs.YtajeadkdacgldaaGreatDoor
open Go.Sy
set_option maxRecDepth 100000
set_option linter.all false
/-- A write that waits. -/
structure Wr where
  a : Int
  s : List UInt8
  k : Int
  i : Int
  e : Int
deriving DecidableEq
def encW (w : Wr) : List D := [.it .i64 w.a] ++ encS w.s ++ [.it .i64 w.k, .it .i64 w.i, .it .i64 w.e]
/-- A disk: how many events were asked for; what is safe, what waits, the events (as they stand), the epoch. -/
structure Dk where
  nx : Int
  safe : List (List UInt8)
  wait : List Wr
  log : List (List D)
  ep : Int
def encDk (d : Dk) : List D := [.ot (.map none), .it .i64 d.nx, .fs 32 (d.safe.map encS), .fs 36 (d.wait.map encW), .fs 38 d.log, .it .i64 d.ep]
def encD : Option Dk → D
  | none => .ot (.pointer none)
  | some d => .fp 6 (encDk d)
def DkOK : Option Dk → Prop
  | none => True
  | some d => (∀ s ∈ d.safe, s.length = 32) ∧ (∀ w ∈ d.wait, w.s.length = 32) ∧ d.safe.length ≤ 65 ∧ d.wait.length ≤ 100000
def noneB : Option Dk → Bool
  | none => true
  | some d => decide (d.safe.length = 0)
def hasP (d : Option Dk) (n : Int) : Prop :=
  match d with
  | none => False
  | some d => 0 ≤ n ∧ n < d.safe.length
instance (d : Option Dk) (n : Int) : Decidable (hasP d n) := by unfold hasP; cases d <;> infer_instance
def lastAt (n : Int) (w : List Wr) : Option (List UInt8) := (w.reverse.find? (fun x => decide (x.a = n))).map (·.s)
/-- A sector as it is read. -/
def rdS (d : Option Dk) (n : Int) : List UInt8 :=
  match d with
  | none => zeroS
  | some d => if 0 ≤ n ∧ n < d.safe.length then (match lastAt n d.wait with | some s => s | none => d.safe.getD n.toNat zeroS) else zeroS
def rdE (d : Option Dk) (n : Int) : Int := if hasP d n then 0 else 1
theorem rdS_len {d : Option Dk} (h : DkOK d) (n : Int) : (rdS d n).length = 32 := by
  cases d with
  | none => rfl
  | some d =>
    obtain ⟨h1, h2, _⟩ := h
    simp only [rdS]
    split
    · split
      · rename_i s hs
        simp only [lastAt, Option.map_eq_some_iff] at hs
        obtain ⟨w, hw, rfl⟩ := hs
        exact h2 w (by simpa using List.mem_of_find?_eq_some hw)
      · rw [List.getD_eq_getElem?_getD]
        cases hq : d.safe[n.toNat]? with
        | none => rfl
        | some s => exact h1 s (List.mem_of_getElem? hq)
    · rfl
theorem none_ok (d : Option Dk) : FnC Tryz.prog 65 [.d (encD d)] (.d (.bl (noneB d))) := by
  cases d with
  | none =>
    refine FnC.intro ti_ok Tryz.func65 rfl Tryz.ntmps65 Tryz.call65 rfl (Nat.le_of_ble_eq_true rfl) rfl ?_
    (repeat' ((conv=>whnf);first|with_reducible refine gA ?_|(with_reducible first|refine gB ?_|refine gZ (fun x hx hu=>?_)|refine gY (fun x hx=>?_)|refine gE ?_|refine Both.mk ?_ ?_|refine gS (fun h=>?_) (fun h=>?_)|refine Spl.nt ?_|refine Spl.mk (fun h=>?_) (fun h=>?_))))
    rfl
  | some d =>
    refine FnC.intro ti_ok Tryz.func65 rfl Tryz.ntmps65 Tryz.call65 rfl (Nat.le_of_ble_eq_true rfl) rfl ?_
    (repeat' ((conv=>whnf);first|with_reducible refine gA ?_|(with_reducible first|refine gB ?_|refine gZ (fun x hx hu=>?_)|refine gY (fun x hx=>?_)|refine gE ?_|refine Both.mk ?_ ?_|refine gS (fun h=>?_) (fun h=>?_)|refine Spl.nt ?_|refine Spl.mk (fun h=>?_) (fun h=>?_))))
    refine bl_eq ?_
    show (((d.safe.map encS).length : Int) == 0) = decide (d.safe.length = 0)
    rw [List.length_map, Bool.eq_iff_iff, beq_iff_eq, decide_eq_true_eq]; omega
theorem has_ok (d : Option Dk) (n : Int) : FnC Tryz.prog 86 [.d (encD d), .d (.it .i64 n)] (.d (.bl (decide (hasP d n)))) := by
  have hn := none_ok d
  cases d with
  | none =>
    refine FnC.intro ti_ok Tryz.func86 rfl Tryz.ntmps86 Tryz.call86 rfl (Nat.le_of_ble_eq_true rfl) rfl ?_
    (repeat' ((conv=>whnf);first|with_reducible refine gA ?_|((with_reducible refine callE_id ?_); (refine CallE.con ⟨_, hn, ?_⟩))|(with_reducible first|refine gB ?_|refine gZ (fun x hx hu=>?_)|refine gY (fun x hx=>?_)|refine gE ?_|refine Both.mk ?_ ?_|refine gS (fun h=>?_) (fun h=>?_)|refine Spl.nt ?_|refine Spl.mk (fun h=>?_) (fun h=>?_))))
    rfl
  | some d =>
    by_cases h : d.safe.length = 0
    · rw [show noneB (some d) = true from decide_eq_true h] at hn
      refine FnC.intro ti_ok Tryz.func86 rfl Tryz.ntmps86 Tryz.call86 rfl (Nat.le_of_ble_eq_true rfl) rfl ?_
      (repeat' ((conv=>whnf);first|with_reducible refine gA ?_|((with_reducible refine callE_id ?_); (refine CallE.con ⟨_, hn, ?_⟩))|(with_reducible first|refine gB ?_|refine gZ (fun x hx hu=>?_)|refine gY (fun x hx=>?_)|refine gE ?_|refine Both.mk ?_ ?_|refine gS (fun h=>?_) (fun h=>?_)|refine Spl.nt ?_|refine Spl.mk (fun h=>?_) (fun h=>?_))))
      exact bl_ff (by show ¬ (0 ≤ n ∧ n < d.safe.length); omega)
    · rw [show noneB (some d) = false from decide_eq_false h] at hn
      refine FnC.intro ti_ok Tryz.func86 rfl Tryz.ntmps86 Tryz.call86 rfl (Nat.le_of_ble_eq_true rfl) rfl ?_
      (repeat' ((conv=>whnf);first|with_reducible refine gA ?_|((with_reducible refine callE_id ?_); (refine CallE.con ⟨_, hn, ?_⟩))|(with_reducible first|refine gB ?_|refine gZ (fun x hx hu=>?_)|refine gY (fun x hx=>?_)|refine gE ?_|refine Both.mk ?_ ?_|refine gS (fun h=>?_) (fun h=>?_)|refine Spl.nt ?_|refine Spl.mk (fun h=>?_) (fun h=>?_))))
      all_goals first
        | exact bl_ff (by show ¬ (0 ≤ n ∧ n < d.safe.length); omega)
        | exact bl_dec (by show n < ((d.safe.map encS).length : Int) ↔ (0 ≤ n ∧ n < (d.safe.length : Int)); rw [List.length_map]; omega)
theorem at_him {α β : Type} {e : α → β} {l : List α} {n : Int} {x : α} {K : β → Prop} (h0 : 0 ≤ n ∧ n < l.length) (hx : l[n.toNat]? = some x) (h : K (e x)) :
    (0 ≤ n ∧ n < (l.map e).length) ∧ ∀ c, (l.map e)[n.toNat]? = some c → K c :=
  at_intm h0 fun y hy => by rw [hx] at hy; obtain rfl := Option.some.inj hy; exact h
theorem encW_len {w : Wr} (h : w.s.length = 32) : (encW w).length = 36 := by unfold encW; simp [encS_len, h]
theorem st_tk {l : List D} {n : Nat} (h : l.length = n) : l.map AV.d = [] ++ (l.take n).map AV.d ++ [] := by
  rw [List.take_of_length_le (by omega), List.nil_append, List.append_nil]
theorem lastAt_hit {n : Int} {l : List Wr} {k : Nat} {w : Wr} (h : ∀ j, j < k → ∀ x, l.reverse[j]? = some x → x.a ≠ n) (hw : l.reverse[k]? = some w) (ha : w.a = n) : lastAt n l = some w.s := by
  unfold lastAt
  have hk := (List.getElem?_eq_some_iff.1 hw).1
  rw [List.find?_eq_some_iff_getElem.2 ⟨by simpa using ha, k, hk, (List.getElem?_eq_some_iff.1 hw).2, fun j hj => by
    have := h j hj _ (List.getElem?_eq_getElem (by omega))
    simpa using this⟩]
  rfl
theorem lastAt_none {n : Int} {l : List Wr} (h : ∀ j, j < l.length → ∀ x, l.reverse[j]? = some x → x.a ≠ n) : lastAt n l = none := by
  unfold lastAt
  rw [Option.map_eq_none_iff, List.find?_eq_none]
  intro x hx
  obtain ⟨j, hj, rfl⟩ := List.getElem_of_mem hx
  have := h j (by simpa using hj) _ (List.getElem?_eq_getElem hj)
  simpa using this
theorem hpd {d : Dk} {n : Int} : hasP (some d) n ↔ (0 ≤ n ∧ n < d.safe.length) := Iff.rfl
theorem ldW {w : Wr} (hs : w.s.length = 32) {ty : Ty} (ha : ty.kd.agg = true) (hz : ty.size = 32) : ldA ty 1 ((encW w).map AV.d) = .dg 32 (encS w.s) := by
  unfold ldA
  rw [ha, cond_true, hz]
  have h1 : (((encW w).map AV.d).drop 1).take 32 = (encS w.s).map AV.d := by
    show ((encS w.s ++ _).map AV.d).take 32 = _
    rw [List.map_append, List.take_append_of_le_length (by rw [List.length_map, encS_len, hs]; exact Nat.le_refl _), List.take_of_length_le (by rw [List.length_map, encS_len, hs]; exact Nat.le_refl _)]
  rw [h1]
  unfold mkAg
  rw [allD_map]
set_option maxHeartbeats 4000000 in
theorem read_ok (d : Option Dk) (hd : DkOK d) (n : Int) : FnC Tryz.prog 66 [.d (encD d), .d (.it .i64 n)] (.tup [.dg 32 (encS (rdS d n)), .d (.it .i64 (rdE d n))]) := by
  have hh := has_ok d n
  by_cases h : hasP d n
  rotate_left
  · rw [decide_eq_false h] at hh
    rw [show rdE d n = 1 from if_neg h, show rdS d n = zeroS by cases d with | none => rfl | some d => exact if_neg h]
    refine FnC.intro ti_ok Tryz.func66 rfl Tryz.ntmps66 Tryz.call66 rfl (Nat.le_of_ble_eq_true rfl) rfl ?_
    (repeat' ((conv=>whnf);first|with_reducible refine gA ?_|((with_reducible refine callE_id ?_); (refine CallE.con ⟨_, hh, ?_⟩)) | with_reducible refine AtA.mk' ?_|(with_reducible first|refine gB ?_|refine gZ (fun x hx hu=>?_)|refine gY (fun x hx=>?_)|refine gE ?_|refine Both.mk ?_ ?_|refine gS (fun h=>?_) (fun h=>?_)|refine Spl.nt ?_|refine Spl.mk (fun h=>?_) (fun h=>?_))))
    rfl
  rw [decide_eq_true h] at hh
  cases d with
  | none => exact h.elim
  | some d =>
    obtain ⟨hd1, hd2, hd3, hd4⟩ := hd
    obtain ⟨h0, h1⟩ := hpd.1 h
    rw [show rdE (some d) n = 0 from if_pos h, show rdS (some d) n = (match lastAt n d.wait with | some s => s | none => d.safe.getD n.toNat zeroS) from if_pos h]
    generalize hR : (match lastAt n d.wait with | some s => s | none => d.safe.getD n.toNat zeroS) = R
    refine FnC.intro ti_ok Tryz.func66 rfl Tryz.ntmps66 Tryz.call66 rfl (Nat.le_of_ble_eq_true rfl) rfl ?_
    (repeat' ((conv=>whnf);first|with_reducible refine gA ?_|((with_reducible refine callE_id ?_); first | (refine CallE.con ⟨_, hh, ?_⟩) | refine CallE.inl ?_) | with_reducible refine CallI.inl ti_ok i87 rfl ?_ | with_reducible refine AtA.mk' ?_|(with_reducible first|refine gB ?_|refine gZ (fun x hx hu=>?_)|refine gY (fun x hx=>?_)|refine gE ?_|refine Both.mk ?_ ?_|refine gS (fun h=>?_) (fun h=>?_)|refine Spl.nt ?_|refine Spl.mk (fun h=>?_) (fun h=>?_))))
    refine RangeS.intro ti_ok i109 rfl rfl ?_
    (repeat' ((conv=>whnf);first|with_reducible refine gA ?_|(with_reducible first|refine gB ?_|refine gZ (fun x hx hu=>?_)|refine gY (fun x hx=>?_)|refine gE ?_|refine Both.mk ?_ ?_|refine gS (fun h=>?_) (fun h=>?_)|refine Spl.nt ?_|refine Spl.mk (fun h=>?_) (fun h=>?_))))
    have hwl : (d.wait.map encW).length = d.wait.length := List.length_map ..
    refine loop_mem0 ti_ok (fun k : Nat => k ≤ d.wait.length ∧ ∀ j, j < k → ∀ x, d.wait.reverse[j]? = some x → x.a ≠ n) (fun k => [(0, .yld 6), (1, .ptr 4 0), (3, .d (.it .i64 ((d.wait.length : Nat) - 1 - (k : Nat))))]) (fun k => d.wait.length - k) 0 ⟨Nat.zero_le _, fun j hj => by omega⟩ ⟨rfl, rfl, it_eq (by rw [hwl]; omega), trivial⟩ rfl ?_
    intro k ⟨k1, k2⟩
    rcases Nat.lt_or_ge k d.wait.length with hkl | hkl
    · obtain ⟨w, hw⟩ := lt_get (l := d.wait) (k := d.wait.length - 1 - k) (by omega)
      have hw' : d.wait[((d.wait.length : Int) - 1 - k).toNat]? = some w := by rw [show ((d.wait.length : Int) - 1 - k).toNat = d.wait.length - 1 - k by omega]; exact hw
      have hrev : d.wait.reverse[k]? = some w := by rw [List.getElem?_reverse hkl]; exact hw
      have hws := hd2 w (List.mem_of_getElem? hw)
      (repeat' ((conv=>whnf);first|with_reducible refine gA ?_|with_reducible refine YieldI.intro ti_ok (by with_unfolding_all exact rfl) (by with_unfolding_all exact rfl) (by with_unfolding_all exact rfl) ?_ | ((with_reducible refine letC_id ?_); first | refine LetC.mk ((encW w).map AV.d) (st_tk (encW_len hws)) ?_ | refine LetC.mk ((encS w.s).map AV.d) (st_all _) ?_) | refine AtA.eq (ldW hws rfl rfl) ?_ | with_reducible refine AtA.mk' ?_ | with_reducible refine at_him (x := w) (by omega) hw' ?_|(with_reducible first|refine gB ?_|refine gZ (fun x hx hu=>?_)|refine gY (fun x hx=>?_)|refine gE ?_|refine Both.mk ?_ ?_|refine gS (fun h=>?_) (fun h=>?_)|refine Spl.nt ?_|refine Spl.mk (fun h=>?_) (fun h=>?_))))
      · have : R = w.s := by rw [← hR, lastAt_hit k2 hrev (by assumption)]
        subst this
        conv => whnf
        conv in (ldA _ _ _) => tactic => exact ld_sec rfl rfl hws
        rfl
      · refine againM0 (k + 1) ⟨by omega, fun j hj x hx => ?_⟩ (by dsimp only; omega) (And.intro rfl (And.intro rfl (And.intro (it_eq (by omega)) trivial))) (by (repeat (first | exact trivial | refine And.intro rfl ?_))) rfl
        rcases Nat.lt_or_ge j k with hjk | hjk
        · exact k2 j hjk x hx
        · obtain rfl : j = k := by omega
          obtain rfl : w = x := Option.some.inj (hrev.symm.trans hx)
          assumption
    · have : R = d.safe.getD n.toNat zeroS := by rw [← hR, lastAt_none (fun j hj => k2 j (by omega))]
      obtain ⟨s, hsn⟩ := lt_get (l := d.safe) (k := n.toNat) (by omega)
      have hsl := hd1 s (List.mem_of_getElem? hsn)
      rw [List.getD_eq_getElem?_getD, hsn] at this
      have this : R = s := this
      rw [this]
      (repeat' ((conv=>whnf);first|with_reducible refine gA ?_|((with_reducible refine letC_id ?_); refine LetC.mk ((encS s).map AV.d) (st_tk (by rw [encS_len]; exact hsl)) ?_) | with_reducible refine AtA.mk' ?_ | with_reducible refine at_him (x := s) (by omega) hsn ?_|(with_reducible first|refine gB ?_|refine gZ (fun x hx hu=>?_)|refine gY (fun x hx=>?_)|refine gE ?_|refine Both.mk ?_ ?_|refine gS (fun h=>?_) (fun h=>?_)|refine Spl.nt ?_|refine Spl.mk (fun h=>?_) (fun h=>?_))))
      conv => whnf
      conv in (ldA _ _ _) => tactic => exact ld_sec rfl rfl hsl
      rfl
end Go.Proofs.YtajeadkdacgldaaGreatDoor

/- Inodes and entries of a disk, and of an image. Conditions: none. -/
namespace Go.Proofs.YtajeadkdacgldaaGreatDoor
open Go.Sy
set_option maxRecDepth 100000
set_option linter.all false
def inoB (s : List UInt8) : Prop := RI (inoOfR s) ∧ s = inoS (inoOfR s)
instance (s : List UInt8) : Decidable (inoB s) := by unfold inoB; infer_instance
def inoOf (s : List UInt8) : Ino := if inoB s then inoOfR s else ino0
theorem inoOfV_eq (s : List UInt8) : inoOfV s = .tup [.dg 6 (encI (inoOf s)), .d (.bl (decide (inoB s)))] := by
  unfold inoOfV inoOf
  by_cases h : inoB s
  · have h' : RI (inoOfR s) ∧ s = inoS (inoOfR s) := h
    rw [if_pos h', if_pos h, decide_eq_true h]
  · have h' : ¬ (RI (inoOfR s) ∧ s = inoS (inoOfR s)) := h
    rw [if_neg h', if_neg h, decide_eq_false h]
def entAt (f : Int → List UInt8) (k : Int) : Ent := if 0 ≤ k ∧ k < 24 then entOf (f (17 + k)) else ent0
/-- A sector of an image. -/
def imS (m : List (List UInt8)) (n : Int) : List UInt8 := m.getD n.toNat zeroS
def ImOK (m : List (List UInt8)) : Prop := ∀ s ∈ m, s.length = 32
abbrev encM (m : List (List UInt8)) : D := .fs 32 (m.map encS)
end Go.Proofs.YtajeadkdacgldaaGreatDoor

/- Is an inode taken? Is it a disk of files? Conditions: none. -/
namespace Go.Proofs.YtajeadkdacgldaaGreatDoor
open Go.Sy
set_option maxRecDepth 100000
set_option linter.all false
def takP (f : Int → List UInt8) (n : Int) : Prop := n = 0 ∨ ∃ k : Nat, k < 24 ∧ (entAt f k).u = true ∧ (entAt f k).t = n
instance (f : Int → List UInt8) (n : Int) : Decidable (takP f n) := by unfold takP; infer_instance
def superS : List UInt8 := [70, 76, 79, 84, 0, 0, 0, 0, 0, 0, 0, 0, 0, 0, 0, 0, 0, 0, 0, 0, 0, 0, 0, 0, 0, 0, 0, 0, 0, 0, 0, 0]
theorem refSuper_ok : FnC Tryz.prog 35 [] (.dg 32 (encS superS)) := by
  refine FnC.intro ti_ok Tryz.func35 rfl Tryz.ntmps35 Tryz.call35 rfl (Nat.le_of_ble_eq_true rfl) rfl ?_
  (repeat' ((conv=>whnf);first|with_reducible refine gA ?_|with_reducible refine AtA.mk' ?_|(with_reducible first|refine gB ?_|refine gZ (fun x hx hu=>?_)|refine gY (fun x hx=>?_)|refine gE ?_|refine Both.mk ?_ ?_|refine gS (fun h=>?_) (fun h=>?_)|refine Spl.nt ?_|refine Spl.mk (fun h=>?_) (fun h=>?_))))
  rfl
end Go.Proofs.YtajeadkdacgldaaGreatDoor

/- Is it a disk of files? Conditions: none. -/
namespace Go.Proofs.YtajeadkdacgldaaGreatDoor
open Go.Sy
set_option maxRecDepth 100000
set_option linter.all false
theorem super_ok : FnC Tryz.prog 88 [] (.dg 32 (encS superS)) := by
  have hf := fits_ok 0 4
  refine FnC.intro ti_ok Tryz.func88 rfl Tryz.ntmps88 Tryz.call88 rfl (Nat.le_of_ble_eq_true rfl) rfl ?_
  (repeat' ((conv=>whnf);first|with_reducible refine gA ?_|((with_reducible refine nils_id ?_); refine NilS.vec ?_) | ((with_reducible refine opX_id ?_); refine OpX.conv ti_ok rfl rfl (by with_unfolding_all exact rfl) (by with_unfolding_all exact rfl) (by with_unfolding_all exact rfl) (Nat.le_of_ble_eq_true rfl) (by with_unfolding_all exact rfl) rfl (by with_unfolding_all exact rfl) rfl ?_) | ((with_reducible refine callE_id ?_); first | (refine CallE.con ⟨_, hf, ?_⟩) | refine CallE.inl ?_) | with_reducible refine CallI.inl ti_ok i110 rfl ?_ | with_reducible refine CallI.inl ti_ok i122 rfl ?_ | with_reducible refine AtA.mk' ?_|(with_reducible first|refine gB ?_|refine gZ (fun x hx hu=>?_)|refine gY (fun x hx=>?_)|refine gE ?_|refine Both.mk ?_ ?_|refine gS (fun h=>?_) (fun h=>?_)|refine Spl.nt ?_|refine Spl.mk (fun h=>?_) (fun h=>?_))))
  rfl
def mntP (m : List (List UInt8)) : Prop := m.length = 65 ∧ imS m 0 = superS ∧ inoB (imS m 1) ∧ (inoOf (imS m 1)).k = 2
instance (m : List (List UInt8)) : Decidable (mntP m) := by unfold mntP; infer_instance
theorem ldD_sec {ty : Ty} (ha : ty.kd.agg = true) (hz : ty.size = 32) {s : List UInt8} (hs : s.length = 32) : ldD ty (encS s) = .dg 32 (encS s) := by
  unfold ldD
  rw [ha, cond_true, hz, List.take_of_length_le (by rw [encS_len, hs]; exact Nat.le_refl _)]
theorem spl_id {b : Bool} {A B : Prop} (h : Spl b A B) : Spl b A B := h
theorem beqN {b : Bool} (h : b = true) : (!b) = false := by rw [h]; rfl
theorem beqY {b : Bool} (h : b = false) : (!b) = true := by rw [h]; rfl
set_option maxHeartbeats 4000000 in
theorem mounts_ok (m : List (List UInt8)) (hm : ImOK m) : FnC Tryz.prog 67 [.d (encM m)] (.d (.bl (decide (mntP m)))) := by
  have hml : (m.map encS).length = m.length := List.length_map ..
  by_cases h : m.length = 65
  · obtain ⟨s0, hs0⟩ := lt_get (l := m) (k := 0) (by omega)
    obtain ⟨s1, hs1⟩ := lt_get (l := m) (k := 1) (by omega)
    have l0 := hm s0 (List.mem_of_getElem? hs0)
    have l1 := hm s1 (List.mem_of_getElem? hs1)
    have e0 : imS m 0 = s0 := by unfold imS; rw [List.getD_eq_getElem?_getD]; show (m[0]?).getD _ = _; rw [hs0]; rfl
    have e1 : imS m 1 = s1 := by unfold imS; rw [List.getD_eq_getElem?_getD]; show (m[1]?).getD _ = _; rw [hs1]; rfl
    have hs0' : m[(0 : Int).toNat]? = some s0 := hs0
    have hs1' : m[(1 : Int).toNat]? = some s1 := hs1
    have hsup := super_ok
    have hi := inoOf_ok s1 l1
    rw [inoOfV_eq] at hi
    have hP : mntP m ↔ (s0 = superS ∧ inoB s1 ∧ (inoOf s1).k = 2) := by unfold mntP; rw [e0, e1]; exact ⟨fun q => q.2, fun q => ⟨h, q⟩⟩
    have heq := eqS s0 superS (by rw [l0]; rfl)
    have hlk := likeSS s0 superS l0 rfl
    by_cases h0 : s0 = superS
    · rw [decide_eq_true h0] at heq
      by_cases h1 : inoB s1
      all_goals (
        first | rw [decide_eq_true h1] at hi | rw [decide_eq_false h1] at hi
        refine FnC.intro ti_ok Tryz.func67 rfl Tryz.ntmps67 Tryz.call67 rfl (Nat.le_of_ble_eq_true rfl) rfl ?_
        (repeat' ((conv=>whnf);first|with_reducible refine gA ?_|with_reducible refine at_him (x := s0) (by omega) hs0' ?_ | with_reducible refine at_him (x := s1) (by omega) hs1' ?_ | ((with_reducible refine atA_id ?_); first | refine AtA.eq (ldD_sec rfl rfl l0) ?_ | refine AtA.eq (ldD_sec rfl rfl l1) ?_) | refine CallP.mk ⟨_, hsup, ?_⟩ | ((with_reducible refine callE_id ?_); first | (refine CallE.con ⟨_, hsup, ?_⟩) | (refine CallE.con ⟨_, hi, ?_⟩)) | refine cond_tt hlk ?_ | ((with_reducible refine spl_id ?_); refine Spl.no (beqN heq) ?_)|(with_reducible first|refine gB ?_|refine gZ (fun x hx hu=>?_)|refine gY (fun x hx=>?_)|refine gE ?_|refine Both.mk ?_ ?_|refine gS (fun h=>?_) (fun h=>?_)|refine Spl.nt ?_|refine Spl.mk (fun h=>?_) (fun h=>?_))))
        all_goals first | exact bl_ff (fun q => h1 (hP.1 q).2.1) | (refine bl_of ?_; rw [beq_iff_eq, hP]; exact ⟨fun q => ⟨h0, h1, q⟩, fun q => q.2.2⟩) | skip)
    · rw [decide_eq_false h0] at heq
      refine FnC.intro ti_ok Tryz.func67 rfl Tryz.ntmps67 Tryz.call67 rfl (Nat.le_of_ble_eq_true rfl) rfl ?_
      (repeat' ((conv=>whnf);first|with_reducible refine gA ?_|with_reducible refine at_him (x := s0) (by omega) hs0' ?_ | with_reducible refine at_him (x := s1) (by omega) hs1' ?_ | ((with_reducible refine atA_id ?_); first | refine AtA.eq (ldD_sec rfl rfl l0) ?_ | refine AtA.eq (ldD_sec rfl rfl l1) ?_) | refine CallP.mk ⟨_, hsup, ?_⟩ | ((with_reducible refine callE_id ?_); first | (refine CallE.con ⟨_, hsup, ?_⟩) | (refine CallE.con ⟨_, hi, ?_⟩)) | refine cond_tt hlk ?_ | ((with_reducible refine spl_id ?_); refine Spl.yes (beqY heq) ?_)|(with_reducible first|refine gB ?_|refine gZ (fun x hx hu=>?_)|refine gY (fun x hx=>?_)|refine gE ?_|refine Both.mk ?_ ?_|refine gS (fun h=>?_) (fun h=>?_)|refine Spl.nt ?_|refine Spl.mk (fun h=>?_) (fun h=>?_))))
      all_goals exact bl_ff (fun q => h0 (hP.1 q).1)
  · refine FnC.intro ti_ok Tryz.func67 rfl Tryz.ntmps67 Tryz.call67 rfl (Nat.le_of_ble_eq_true rfl) rfl ?_
    (repeat' ((conv=>whnf);first|with_reducible refine gA ?_|(with_reducible first|refine gB ?_|refine gZ (fun x hx hu=>?_)|refine gY (fun x hx=>?_)|refine gE ?_|refine Both.mk ?_ ?_|refine gS (fun h=>?_) (fun h=>?_)|refine Spl.nt ?_|refine Spl.mk (fun h=>?_) (fun h=>?_))))
    all_goals first | omega | exact bl_ff (fun q => h q.1)
end Go.Proofs.YtajeadkdacgldaaGreatDoor

/- A disk out of an image and writes. Conditions: none. -/
namespace Go.Proofs.YtajeadkdacgldaaGreatDoor
open Go.Sy
set_option maxRecDepth 100000
set_option linter.all false
end Go.Proofs.YtajeadkdacgldaaGreatDoor

/- Is it mounted? An image with writes over it. Conditions: none. -/
namespace Go.Proofs.YtajeadkdacgldaaGreatDoor
open Go.Sy
set_option maxRecDepth 100000
set_option linter.all false
/-- All sectors of a disk, as they are read. -/
def imgD (d : Option Dk) : List (List UInt8) := match d with
  | none => []
  | some dk => (List.range dk.safe.length).map fun k : Nat => rdS d (k : Nat)
theorem imgD_ok {d : Option Dk} (h : DkOK d) : ImOK (imgD d) := by
  intro s hs
  cases d with
  | none => cases hs
  | some dk =>
    obtain ⟨k, _, rfl⟩ := List.mem_map.1 hs
    exact rdS_len h _
theorem chunk1 {l : List D} {n : Nat} (h : l.length = n) : chunk n 1 ([] ++ l ++ []) = [l] := by
  show [([] ++ l ++ []).take n] = _
  rw [List.nil_append, List.append_nil, List.take_of_length_le (by omega)]
def mtA (d : Option Dk) (i : Nat) : S := ⟨[(0, .d (encD d)), (3, .ts 32 (((List.range i).map fun k : Nat => rdS d (k : Nat)).map encS) 0), (7, .d (.it .i64 (i : Nat)))], [(0, .tail 81 true)], 1⟩
set_option maxHeartbeats 4000000 in
theorem mounted_ok (d : Option Dk) (hd : DkOK d) : FnC Tryz.prog 47 [.d (encD d)] (.d (.bl (decide (mntP (imgD d))))) := by
  have hm := mounts_ok _ (imgD_ok hd)
  have hil : (imgD d).length ≤ 65 := by
    cases d with
    | none => exact Nat.zero_le _
    | some dk =>
      show ((List.range dk.safe.length).map _).length ≤ 65
      rw [List.length_map, List.length_range]; exact hd.2.2.1
  have hhas : ∀ i : Nat, hasP d i ↔ i < (imgD d).length := fun i => by
    cases d with
    | none => exact ⟨fun h => h.elim, fun h => absurd h (Nat.not_lt_zero _)⟩
    | some dk =>
      show (0 ≤ (i : Int) ∧ (i : Int) < dk.safe.length) ↔ i < ((List.range dk.safe.length).map _).length
      rw [List.length_map, List.length_range]; omega
  have himg : ((List.range (imgD d).length).map fun k : Nat => rdS d (k : Nat)) = imgD d := by
    cases d with
    | none => rfl
    | some dk =>
      show ((List.range ((List.range dk.safe.length).map _).length).map _) = _
      rw [List.length_map, List.length_range]; rfl
  refine FnC.intro ti_ok Tryz.func47 rfl Tryz.ntmps47 Tryz.call47 rfl (Nat.le_of_ble_eq_true rfl) rfl ?_
  (repeat' ((conv=>whnf);first|with_reducible refine gA ?_|(with_reducible first|refine gB ?_|refine gZ (fun x hx hu=>?_)|refine gY (fun x hx=>?_)|refine gE ?_|refine Both.mk ?_ ?_|refine gS (fun h=>?_) (fun h=>?_)|refine Spl.nt ?_|refine Spl.mk (fun h=>?_) (fun h=>?_))))
  refine loop_rule ti_ok (fun i : Nat => i ≤ (imgD d).length) (mtA d) (fun i => 66 - i) 0 (Nat.zero_le _) ⟨And.intro rfl (And.intro rfl (And.intro rfl trivial)), And.intro rfl trivial, rfl⟩ ?_
  intro i hi
  have hr := read_ok d hd i
  have hlen : (((List.range i).map fun k : Nat => rdS d (k : Nat)).map encS).length = i := by simp
  rcases Nat.lt_or_ge i (imgD d).length with hlt | hge
  · rw [show rdE d i = 0 from if_pos ((hhas i).2 hlt)] at hr
    have hs := rdS_len hd i
    have hrl : (List.range i).length = i := List.length_range
    (repeat' ((conv=>whnf);first|with_reducible refine gA ?_|((with_reducible refine callE_id ?_); (refine CallE.con ⟨_, hr, ?_⟩)) | ((with_reducible refine letC_id ?_); refine LetC.mk ((encS (rdS d i)).map AV.d) (st_all _) ?_) | ((with_reducible refine atA_id ?_); refine AtA.eq (ld_sec rfl rfl hs) ?_)|(with_reducible first|refine gB ?_|refine gZ (fun x hx hu=>?_)|refine gY (fun x hx=>?_)|refine gE ?_|refine Both.mk ?_ ?_|refine gS (fun h=>?_) (fun h=>?_)|refine Spl.nt ?_|refine Spl.mk (fun h=>?_) (fun h=>?_))))
    refine again (i + 1) (by omega) (by dsimp only; omega) (And.intro rfl (And.intro (ts_eq ?_) (And.intro (it_eq (by omega)) trivial))) (And.intro rfl trivial) rfl
    rw [List.range_succ, List.map_append, List.map_append]
    exact congrArg _ (chunk1 (by rw [encS_len]; exact hs))
  · have hie : i = (imgD d).length := by omega
    rw [show rdE d i = 1 from if_neg (fun q => by have := (hhas i).1 q; omega)] at hr
    have hmi : FnC Tryz.prog 67 [.d (.fs 32 ((((List.range i).map fun k : Nat => rdS d (k : Nat))).map encS))] (.d (.bl (decide (mntP (imgD d))))) := by rw [hie, himg]; exact hm
    by_cases h65 : i < 65
    · (repeat' ((conv=>whnf);first|with_reducible refine gA ?_|((with_reducible refine callE_id ?_); first | (refine CallE.con ⟨_, hr, ?_⟩) | (refine CallE.con ⟨_, hmi, ?_⟩)) | ((with_reducible refine letC_id ?_); refine LetC.mk ((encS (rdS d i)).map AV.d) (st_all _) ?_)|(with_reducible first|refine gB ?_|refine gZ (fun x hx hu=>?_)|refine gY (fun x hx=>?_)|refine gE ?_|refine Both.mk ?_ ?_|refine gS (fun h=>?_) (fun h=>?_)|refine Spl.nt ?_|refine Spl.mk (fun h=>?_) (fun h=>?_))))
      rfl
    · (repeat' ((conv=>whnf);first|with_reducible refine gA ?_|((with_reducible refine callE_id ?_); (refine CallE.con ⟨_, hmi, ?_⟩))|(with_reducible first|refine gB ?_|refine gZ (fun x hx hu=>?_)|refine gY (fun x hx=>?_)|refine gE ?_|refine Both.mk ?_ ?_|refine gS (fun h=>?_) (fun h=>?_)|refine Spl.nt ?_|refine Spl.mk (fun h=>?_) (fun h=>?_))))
      rfl
end Go.Proofs.YtajeadkdacgldaaGreatDoor
