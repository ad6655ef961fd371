/- Contracts of the functions that the law reaches, and the law. Conditions: none. -/
import Derived.Test.YtenomegafkileaaGreatDoorKA
import Derived.Test.YtenomegafkileaaGreatDoorSC
set_option linter.all false
/- Disks as data; a sector read. Conditions: none. -/
namespace Go.Proofs.YtenomegafkileaaGreatDoor
open Go.Sy
set_option maxRecDepth 100000
set_option linter.all false
/-- A write that waits. -/
structure Wr where
  a : Int
  s : List UInt8
  k : Int
  i : Int
  e : Int
deriving DecidableEq
def encW (w : Wr) : List D := [.it .i64 w.a] ++ encS w.s ++ [.it .i64 w.k, .it .i64 w.i, .it .i64 w.e]
/-- A disk: how many events were asked for; what is safe, what waits, the events (as they stand), the epoch. -/
structure Dk where
  nx : Int
  safe : List (List UInt8)
  wait : List Wr
  log : List (List D)
  ep : Int
def encDk (d : Dk) : List D := [.ot (.map none), .it .i64 d.nx, .fs 32 (d.safe.map encS), .fs 36 (d.wait.map encW), .fs 38 d.log, .it .i64 d.ep]
def encD : Option Dk → D
  | none => .ot (.pointer none)
  | some d => .fp 6 (encDk d)
def DkOK : Option Dk → Prop
  | none => True
  | some d => (∀ s ∈ d.safe, s.length = 32) ∧ (∀ w ∈ d.wait, w.s.length = 32) ∧ d.safe.length ≤ 65 ∧ d.wait.length ≤ 100000
def noneB : Option Dk → Bool
  | none => true
  | some d => decide (d.safe.length = 0)
def hasP (d : Option Dk) (n : Int) : Prop :=
  match d with
  | none => False
  | some d => 0 ≤ n ∧ n < d.safe.length
instance (d : Option Dk) (n : Int) : Decidable (hasP d n) := by unfold hasP; cases d <;> infer_instance
def lastAt (n : Int) (w : List Wr) : Option (List UInt8) := (w.reverse.find? (fun x => decide (x.a = n))).map (·.s)
/-- A sector as it is read. -/
def rdS (d : Option Dk) (n : Int) : List UInt8 :=
  match d with
  | none => zeroS
  | some d => if 0 ≤ n ∧ n < d.safe.length then (match lastAt n d.wait with | some s => s | none => d.safe.getD n.toNat zeroS) else zeroS
def rdE (d : Option Dk) (n : Int) : Int := if hasP d n then 0 else 1
theorem rdS_len {d : Option Dk} (h : DkOK d) (n : Int) : (rdS d n).length = 32 := by
  cases d with
  | none => rfl
  | some d =>
    obtain ⟨h1, h2, _⟩ := h
    simp only [rdS]
    split
    · split
      · rename_i s hs
        simp only [lastAt, Option.map_eq_some_iff] at hs
        obtain ⟨w, hw, rfl⟩ := hs
        exact h2 w (by simpa using List.mem_of_find?_eq_some hw)
      · rw [List.getD_eq_getElem?_getD]
        cases hq : d.safe[n.toNat]? with
        | none => rfl
        | some s => exact h1 s (List.mem_of_getElem? hq)
    · rfl
theorem none_ok (d : Option Dk) : FnC Tryz.prog 25 [.d (encD d)] (.d (.bl (noneB d))) := by
  cases d with
  | none =>
    refine FnC.intro ti_ok Tryz.func25 rfl Tryz.ntmps25 Tryz.call25 rfl (Nat.le_of_ble_eq_true rfl) rfl ?_
    (repeat' ((conv => whnf); first | (with_reducible first | refine Spl.tt ?_ | refine Spl.ff ?_) | (with_reducible first | refine draw_auto ti_ok mixed (by decide +kernel) ?_ | refine g_i64 ?_ | refine g_u64 ?_ | refine g_u8 ?_ | refine g_iq ?_ | refine g_uq ?_ | refine g_rem ?_ | refine LetN.mk ?_ | refine g_hm ?_ | refine g_hb ?_ | refine g_lit ?_ | refine g_nm8 (fun x hx hu => ?_) | refine g_n8 (fun x hx hu => ?_) | refine g_b8 (fun x hx hu => ?_) | refine g_nm (fun x hx => ?_) | refine g_im (fun x hx => ?_) | refine g_n (fun x hx => ?_) | refine g_b (fun x hx => ?_) | refine g_and ?_ | refine g_c ?_ | refine Both.mk ?_ ?_ | refine NilS.ts ?_ | refine LetE.now ?_ | refine AtD.now ?_ | refine LetC.now ?_ | refine g_some ?_ | refine g_yk ?_ | refine g_nk ?_ | refine g_y ?_ | refine g_f ?_ | refine AtA.mk' ?_ | refine Spl.pd (fun h => ?_) (fun h => ?_) | refine Spl.peq (fun h => ?_) (fun h => ?_) | refine Spl.pne (fun h => ?_) (fun h => ?_) | refine Spl.seq (fun h => ?_) (fun h => ?_) | refine Spl.sne (fun h => ?_) (fun h => ?_) | refine Spl.nt ?_ | refine Spl.mk (fun h => ?_) (fun h => ?_))))
    rfl
  | some d =>
    refine FnC.intro ti_ok Tryz.func25 rfl Tryz.ntmps25 Tryz.call25 rfl (Nat.le_of_ble_eq_true rfl) rfl ?_
    (repeat' ((conv => whnf); first | (with_reducible first | refine Spl.tt ?_ | refine Spl.ff ?_) | (with_reducible first | refine draw_auto ti_ok mixed (by decide +kernel) ?_ | refine g_i64 ?_ | refine g_u64 ?_ | refine g_u8 ?_ | refine g_iq ?_ | refine g_uq ?_ | refine g_rem ?_ | refine LetN.mk ?_ | refine g_hm ?_ | refine g_hb ?_ | refine g_lit ?_ | refine g_nm8 (fun x hx hu => ?_) | refine g_n8 (fun x hx hu => ?_) | refine g_b8 (fun x hx hu => ?_) | refine g_nm (fun x hx => ?_) | refine g_im (fun x hx => ?_) | refine g_n (fun x hx => ?_) | refine g_b (fun x hx => ?_) | refine g_and ?_ | refine g_c ?_ | refine Both.mk ?_ ?_ | refine NilS.ts ?_ | refine LetE.now ?_ | refine AtD.now ?_ | refine LetC.now ?_ | refine g_some ?_ | refine g_yk ?_ | refine g_nk ?_ | refine g_y ?_ | refine g_f ?_ | refine AtA.mk' ?_ | refine Spl.pd (fun h => ?_) (fun h => ?_) | refine Spl.peq (fun h => ?_) (fun h => ?_) | refine Spl.pne (fun h => ?_) (fun h => ?_) | refine Spl.seq (fun h => ?_) (fun h => ?_) | refine Spl.sne (fun h => ?_) (fun h => ?_) | refine Spl.nt ?_ | refine Spl.mk (fun h => ?_) (fun h => ?_))))
    refine bl_eq ?_
    show (((d.safe.map encS).length : Int) == 0) = decide (d.safe.length = 0)
    rw [List.length_map, Bool.eq_iff_iff, beq_iff_eq, decide_eq_true_eq]; omega
theorem has_ok (d : Option Dk) (n : Int) : FnC Tryz.prog 27 [.d (encD d), .d (.it .i64 n)] (.d (.bl (decide (hasP d n)))) := by
  have hn := none_ok d
  cases d with
  | none =>
    refine FnC.intro ti_ok Tryz.func27 rfl Tryz.ntmps27 Tryz.call27 rfl (Nat.le_of_ble_eq_true rfl) rfl ?_
    (repeat' ((conv => whnf); first | (with_reducible first | refine Spl.tt ?_ | refine Spl.ff ?_) | ((with_reducible refine callE_id ?_); (refine CallE.con ⟨_, hn, ?_⟩)) | (with_reducible first | refine draw_auto ti_ok mixed (by decide +kernel) ?_ | refine g_i64 ?_ | refine g_u64 ?_ | refine g_u8 ?_ | refine g_iq ?_ | refine g_uq ?_ | refine g_rem ?_ | refine LetN.mk ?_ | refine g_hm ?_ | refine g_hb ?_ | refine g_lit ?_ | refine g_nm8 (fun x hx hu => ?_) | refine g_n8 (fun x hx hu => ?_) | refine g_b8 (fun x hx hu => ?_) | refine g_nm (fun x hx => ?_) | refine g_im (fun x hx => ?_) | refine g_n (fun x hx => ?_) | refine g_b (fun x hx => ?_) | refine g_and ?_ | refine g_c ?_ | refine Both.mk ?_ ?_ | refine NilS.ts ?_ | refine LetE.now ?_ | refine AtD.now ?_ | refine LetC.now ?_ | refine g_some ?_ | refine g_yk ?_ | refine g_nk ?_ | refine g_y ?_ | refine g_f ?_ | refine AtA.mk' ?_ | refine Spl.pd (fun h => ?_) (fun h => ?_) | refine Spl.peq (fun h => ?_) (fun h => ?_) | refine Spl.pne (fun h => ?_) (fun h => ?_) | refine Spl.seq (fun h => ?_) (fun h => ?_) | refine Spl.sne (fun h => ?_) (fun h => ?_) | refine Spl.nt ?_ | refine Spl.mk (fun h => ?_) (fun h => ?_))))
    rfl
  | some d =>
    by_cases h : d.safe.length = 0
    · rw [show noneB (some d) = true from decide_eq_true h] at hn
      refine FnC.intro ti_ok Tryz.func27 rfl Tryz.ntmps27 Tryz.call27 rfl (Nat.le_of_ble_eq_true rfl) rfl ?_
      (repeat' ((conv => whnf); first | (with_reducible first | refine Spl.tt ?_ | refine Spl.ff ?_) | ((with_reducible refine callE_id ?_); (refine CallE.con ⟨_, hn, ?_⟩)) | (with_reducible first | refine draw_auto ti_ok mixed (by decide +kernel) ?_ | refine g_i64 ?_ | refine g_u64 ?_ | refine g_u8 ?_ | refine g_iq ?_ | refine g_uq ?_ | refine g_rem ?_ | refine LetN.mk ?_ | refine g_hm ?_ | refine g_hb ?_ | refine g_lit ?_ | refine g_nm8 (fun x hx hu => ?_) | refine g_n8 (fun x hx hu => ?_) | refine g_b8 (fun x hx hu => ?_) | refine g_nm (fun x hx => ?_) | refine g_im (fun x hx => ?_) | refine g_n (fun x hx => ?_) | refine g_b (fun x hx => ?_) | refine g_and ?_ | refine g_c ?_ | refine Both.mk ?_ ?_ | refine NilS.ts ?_ | refine LetE.now ?_ | refine AtD.now ?_ | refine LetC.now ?_ | refine g_some ?_ | refine g_yk ?_ | refine g_nk ?_ | refine g_y ?_ | refine g_f ?_ | refine AtA.mk' ?_ | refine Spl.pd (fun h => ?_) (fun h => ?_) | refine Spl.peq (fun h => ?_) (fun h => ?_) | refine Spl.pne (fun h => ?_) (fun h => ?_) | refine Spl.seq (fun h => ?_) (fun h => ?_) | refine Spl.sne (fun h => ?_) (fun h => ?_) | refine Spl.nt ?_ | refine Spl.mk (fun h => ?_) (fun h => ?_))))
      exact bl_ff (by show ¬ (0 ≤ n ∧ n < d.safe.length); omega)
    · rw [show noneB (some d) = false from decide_eq_false h] at hn
      refine FnC.intro ti_ok Tryz.func27 rfl Tryz.ntmps27 Tryz.call27 rfl (Nat.le_of_ble_eq_true rfl) rfl ?_
      (repeat' ((conv => whnf); first | (with_reducible first | refine Spl.tt ?_ | refine Spl.ff ?_) | ((with_reducible refine callE_id ?_); (refine CallE.con ⟨_, hn, ?_⟩)) | (with_reducible first | refine draw_auto ti_ok mixed (by decide +kernel) ?_ | refine g_i64 ?_ | refine g_u64 ?_ | refine g_u8 ?_ | refine g_iq ?_ | refine g_uq ?_ | refine g_rem ?_ | refine LetN.mk ?_ | refine g_hm ?_ | refine g_hb ?_ | refine g_lit ?_ | refine g_nm8 (fun x hx hu => ?_) | refine g_n8 (fun x hx hu => ?_) | refine g_b8 (fun x hx hu => ?_) | refine g_nm (fun x hx => ?_) | refine g_im (fun x hx => ?_) | refine g_n (fun x hx => ?_) | refine g_b (fun x hx => ?_) | refine g_and ?_ | refine g_c ?_ | refine Both.mk ?_ ?_ | refine NilS.ts ?_ | refine LetE.now ?_ | refine AtD.now ?_ | refine LetC.now ?_ | refine g_some ?_ | refine g_yk ?_ | refine g_nk ?_ | refine g_y ?_ | refine g_f ?_ | refine AtA.mk' ?_ | refine Spl.pd (fun h => ?_) (fun h => ?_) | refine Spl.peq (fun h => ?_) (fun h => ?_) | refine Spl.pne (fun h => ?_) (fun h => ?_) | refine Spl.seq (fun h => ?_) (fun h => ?_) | refine Spl.sne (fun h => ?_) (fun h => ?_) | refine Spl.nt ?_ | refine Spl.mk (fun h => ?_) (fun h => ?_))))
      all_goals first
        | exact bl_ff (by show ¬ (0 ≤ n ∧ n < d.safe.length); omega)
        | exact bl_dec (by show n < ((d.safe.map encS).length : Int) ↔ (0 ≤ n ∧ n < (d.safe.length : Int)); rw [List.length_map]; omega)
theorem at_him {α β : Type} {e : α → β} {l : List α} {n : Int} {x : α} {K : β → Prop} (h0 : 0 ≤ n ∧ n < l.length) (hx : l[n.toNat]? = some x) (h : K (e x)) :
    (0 ≤ n ∧ n < (l.map e).length) ∧ ∀ c, (l.map e)[n.toNat]? = some c → K c :=
  at_intm h0 fun y hy => by rw [hx] at hy; obtain rfl := Option.some.inj hy; exact h
theorem encW_len {w : Wr} (h : w.s.length = 32) : (encW w).length = 36 := by unfold encW; simp [encS_len, h]
theorem st_tk {l : List D} {n : Nat} (h : l.length = n) : l.map AV.d = [] ++ (l.take n).map AV.d ++ [] := by
  rw [List.take_of_length_le (by omega), List.nil_append, List.append_nil]
theorem lastAt_hit {n : Int} {l : List Wr} {k : Nat} {w : Wr} (h : ∀ j, j < k → ∀ x, l.reverse[j]? = some x → x.a ≠ n) (hw : l.reverse[k]? = some w) (ha : w.a = n) : lastAt n l = some w.s := by
  unfold lastAt
  have hk := (List.getElem?_eq_some_iff.1 hw).1
  rw [List.find?_eq_some_iff_getElem.2 ⟨by simpa using ha, k, hk, (List.getElem?_eq_some_iff.1 hw).2, fun j hj => by
    have := h j hj _ (List.getElem?_eq_getElem (by omega))
    simpa using this⟩]
  rfl
theorem lastAt_none {n : Int} {l : List Wr} (h : ∀ j, j < l.length → ∀ x, l.reverse[j]? = some x → x.a ≠ n) : lastAt n l = none := by
  unfold lastAt
  rw [Option.map_eq_none_iff, List.find?_eq_none]
  intro x hx
  obtain ⟨j, hj, rfl⟩ := List.getElem_of_mem hx
  have := h j (by simpa using hj) _ (List.getElem?_eq_getElem hj)
  simpa using this
theorem hpd {d : Dk} {n : Int} : hasP (some d) n ↔ (0 ≤ n ∧ n < d.safe.length) := Iff.rfl
theorem ldW {w : Wr} (hs : w.s.length = 32) {ty : Ty} (ha : ty.kd.agg = true) (hz : ty.size = 32) : ldA ty 1 ((encW w).map AV.d) = .dg 32 (encS w.s) := by
  unfold ldA
  rw [ha, cond_true, hz]
  have h1 : (((encW w).map AV.d).drop 1).take 32 = (encS w.s).map AV.d := by
    show ((encS w.s ++ _).map AV.d).take 32 = _
    rw [List.map_append, List.take_append_of_le_length (by rw [List.length_map, encS_len, hs]; exact Nat.le_refl _), List.take_of_length_le (by rw [List.length_map, encS_len, hs]; exact Nat.le_refl _)]
  rw [h1]
  unfold mkAg
  rw [allD_map]
set_option maxHeartbeats 4000000 in
theorem read_ok (d : Option Dk) (hd : DkOK d) (n : Int) : FnC Tryz.prog 54 [.d (encD d), .d (.it .i64 n)] (.tup [.dg 32 (encS (rdS d n)), .d (.it .i64 (rdE d n))]) := by
  have hh := has_ok d n
  by_cases h : hasP d n
  rotate_left
  · rw [decide_eq_false h] at hh
    rw [show rdE d n = 1 from if_neg h, show rdS d n = zeroS by cases d with | none => rfl | some d => exact if_neg h]
    refine FnC.intro ti_ok Tryz.func54 rfl Tryz.ntmps54 Tryz.call54 rfl (Nat.le_of_ble_eq_true rfl) rfl ?_
    (repeat' ((conv => whnf); first | (with_reducible first | refine Spl.tt ?_ | refine Spl.ff ?_) | ((with_reducible refine callE_id ?_); (refine CallE.con ⟨_, hh, ?_⟩)) | with_reducible refine AtA.mk' ?_ | (with_reducible first | refine draw_auto ti_ok mixed (by decide +kernel) ?_ | refine g_i64 ?_ | refine g_u64 ?_ | refine g_u8 ?_ | refine g_iq ?_ | refine g_uq ?_ | refine g_rem ?_ | refine LetN.mk ?_ | refine g_hm ?_ | refine g_hb ?_ | refine g_lit ?_ | refine g_nm8 (fun x hx hu => ?_) | refine g_n8 (fun x hx hu => ?_) | refine g_b8 (fun x hx hu => ?_) | refine g_nm (fun x hx => ?_) | refine g_im (fun x hx => ?_) | refine g_n (fun x hx => ?_) | refine g_b (fun x hx => ?_) | refine g_and ?_ | refine g_c ?_ | refine Both.mk ?_ ?_ | refine NilS.ts ?_ | refine LetE.now ?_ | refine AtD.now ?_ | refine LetC.now ?_ | refine g_some ?_ | refine g_yk ?_ | refine g_nk ?_ | refine g_y ?_ | refine g_f ?_ | refine AtA.mk' ?_ | refine Spl.pd (fun h => ?_) (fun h => ?_) | refine Spl.peq (fun h => ?_) (fun h => ?_) | refine Spl.pne (fun h => ?_) (fun h => ?_) | refine Spl.seq (fun h => ?_) (fun h => ?_) | refine Spl.sne (fun h => ?_) (fun h => ?_) | refine Spl.nt ?_ | refine Spl.mk (fun h => ?_) (fun h => ?_))))
    rfl
  rw [decide_eq_true h] at hh
  cases d with
  | none => exact h.elim
  | some d =>
    obtain ⟨hd1, hd2, hd3, hd4⟩ := hd
    obtain ⟨h0, h1⟩ := hpd.1 h
    rw [show rdE (some d) n = 0 from if_pos h, show rdS (some d) n = (match lastAt n d.wait with | some s => s | none => d.safe.getD n.toNat zeroS) from if_pos h]
    generalize hR : (match lastAt n d.wait with | some s => s | none => d.safe.getD n.toNat zeroS) = R
    refine FnC.intro ti_ok Tryz.func54 rfl Tryz.ntmps54 Tryz.call54 rfl (Nat.le_of_ble_eq_true rfl) rfl ?_
    (repeat' ((conv => whnf); first | (with_reducible first | refine Spl.tt ?_ | refine Spl.ff ?_) | ((with_reducible refine callE_id ?_); first | (refine CallE.con ⟨_, hh, ?_⟩) | refine CallE.inl ?_) | with_reducible refine CallI.inl ti_ok i65 rfl ?_ | with_reducible refine AtA.mk' ?_ | (with_reducible first | refine draw_auto ti_ok mixed (by decide +kernel) ?_ | refine g_i64 ?_ | refine g_u64 ?_ | refine g_u8 ?_ | refine g_iq ?_ | refine g_uq ?_ | refine g_rem ?_ | refine LetN.mk ?_ | refine g_hm ?_ | refine g_hb ?_ | refine g_lit ?_ | refine g_nm8 (fun x hx hu => ?_) | refine g_n8 (fun x hx hu => ?_) | refine g_b8 (fun x hx hu => ?_) | refine g_nm (fun x hx => ?_) | refine g_im (fun x hx => ?_) | refine g_n (fun x hx => ?_) | refine g_b (fun x hx => ?_) | refine g_and ?_ | refine g_c ?_ | refine Both.mk ?_ ?_ | refine NilS.ts ?_ | refine LetE.now ?_ | refine AtD.now ?_ | refine LetC.now ?_ | refine g_some ?_ | refine g_yk ?_ | refine g_nk ?_ | refine g_y ?_ | refine g_f ?_ | refine AtA.mk' ?_ | refine Spl.pd (fun h => ?_) (fun h => ?_) | refine Spl.peq (fun h => ?_) (fun h => ?_) | refine Spl.pne (fun h => ?_) (fun h => ?_) | refine Spl.seq (fun h => ?_) (fun h => ?_) | refine Spl.sne (fun h => ?_) (fun h => ?_) | refine Spl.nt ?_ | refine Spl.mk (fun h => ?_) (fun h => ?_))))
    refine RangeS.intro ti_ok i80 rfl rfl ?_
    (repeat' ((conv => whnf); first | (with_reducible first | refine Spl.tt ?_ | refine Spl.ff ?_) | (with_reducible first | refine draw_auto ti_ok mixed (by decide +kernel) ?_ | refine g_i64 ?_ | refine g_u64 ?_ | refine g_u8 ?_ | refine g_iq ?_ | refine g_uq ?_ | refine g_rem ?_ | refine LetN.mk ?_ | refine g_hm ?_ | refine g_hb ?_ | refine g_lit ?_ | refine g_nm8 (fun x hx hu => ?_) | refine g_n8 (fun x hx hu => ?_) | refine g_b8 (fun x hx hu => ?_) | refine g_nm (fun x hx => ?_) | refine g_im (fun x hx => ?_) | refine g_n (fun x hx => ?_) | refine g_b (fun x hx => ?_) | refine g_and ?_ | refine g_c ?_ | refine Both.mk ?_ ?_ | refine NilS.ts ?_ | refine LetE.now ?_ | refine AtD.now ?_ | refine LetC.now ?_ | refine g_some ?_ | refine g_yk ?_ | refine g_nk ?_ | refine g_y ?_ | refine g_f ?_ | refine AtA.mk' ?_ | refine Spl.pd (fun h => ?_) (fun h => ?_) | refine Spl.peq (fun h => ?_) (fun h => ?_) | refine Spl.pne (fun h => ?_) (fun h => ?_) | refine Spl.seq (fun h => ?_) (fun h => ?_) | refine Spl.sne (fun h => ?_) (fun h => ?_) | refine Spl.nt ?_ | refine Spl.mk (fun h => ?_) (fun h => ?_))))
    have hwl : (d.wait.map encW).length = d.wait.length := List.length_map ..
    refine loop_mem0 ti_ok (fun k : Nat => k ≤ d.wait.length ∧ ∀ j, j < k → ∀ x, d.wait.reverse[j]? = some x → x.a ≠ n) (fun k => [(0, .yld 6), (1, .ptr 4 0), (3, .d (.it .i64 ((d.wait.length : Nat) - 1 - (k : Nat))))]) (fun k => d.wait.length - k) 0 ⟨Nat.zero_le _, fun j hj => by omega⟩ ⟨rfl, rfl, it_eq (by rw [hwl]; omega), trivial⟩ rfl ?_
    intro k ⟨k1, k2⟩
    rcases Nat.lt_or_ge k d.wait.length with hkl | hkl
    · obtain ⟨w, hw⟩ := lt_get (l := d.wait) (k := d.wait.length - 1 - k) (by omega)
      have hw' : d.wait[((d.wait.length : Int) - 1 - k).toNat]? = some w := by rw [show ((d.wait.length : Int) - 1 - k).toNat = d.wait.length - 1 - k by omega]; exact hw
      have hrev : d.wait.reverse[k]? = some w := by rw [List.getElem?_reverse hkl]; exact hw
      have hws := hd2 w (List.mem_of_getElem? hw)
      (repeat' ((conv => whnf); first | (with_reducible first | refine Spl.tt ?_ | refine Spl.ff ?_) | with_reducible refine YieldI.intro ti_ok (by with_unfolding_all exact rfl) (by with_unfolding_all exact rfl) (by with_unfolding_all exact rfl) ?_ | ((with_reducible refine letC_id ?_); first | refine LetC.mk ((encW w).map AV.d) (st_tk (encW_len hws)) ?_ | refine LetC.mk ((encS w.s).map AV.d) (st_all _) ?_) | refine AtA.eq (ldW hws rfl rfl) ?_ | with_reducible refine AtA.mk' ?_ | with_reducible refine at_him (x := w) (by omega) hw' ?_ | (with_reducible first | refine draw_auto ti_ok mixed (by decide +kernel) ?_ | refine g_i64 ?_ | refine g_u64 ?_ | refine g_u8 ?_ | refine g_iq ?_ | refine g_uq ?_ | refine g_rem ?_ | refine LetN.mk ?_ | refine g_hm ?_ | refine g_hb ?_ | refine g_lit ?_ | refine g_nm8 (fun x hx hu => ?_) | refine g_n8 (fun x hx hu => ?_) | refine g_b8 (fun x hx hu => ?_) | refine g_nm (fun x hx => ?_) | refine g_im (fun x hx => ?_) | refine g_n (fun x hx => ?_) | refine g_b (fun x hx => ?_) | refine g_and ?_ | refine g_c ?_ | refine Both.mk ?_ ?_ | refine NilS.ts ?_ | refine LetE.now ?_ | refine AtD.now ?_ | refine LetC.now ?_ | refine g_some ?_ | refine g_yk ?_ | refine g_nk ?_ | refine g_y ?_ | refine g_f ?_ | refine AtA.mk' ?_ | refine Spl.pd (fun h => ?_) (fun h => ?_) | refine Spl.peq (fun h => ?_) (fun h => ?_) | refine Spl.pne (fun h => ?_) (fun h => ?_) | refine Spl.seq (fun h => ?_) (fun h => ?_) | refine Spl.sne (fun h => ?_) (fun h => ?_) | refine Spl.nt ?_ | refine Spl.mk (fun h => ?_) (fun h => ?_))))
      · have : R = w.s := by rw [← hR, lastAt_hit k2 hrev (by assumption)]
        subst this
        conv => whnf
        conv in (ldA _ _ _) => tactic => exact ld_sec rfl rfl hws
        rfl
      · refine againM0 (k + 1) ⟨by omega, fun j hj x hx => ?_⟩ (by dsimp only; omega) (And.intro rfl (And.intro rfl (And.intro (it_eq (by omega)) trivial))) (by (repeat (first | exact trivial | refine And.intro rfl ?_))) rfl
        rcases Nat.lt_or_ge j k with hjk | hjk
        · exact k2 j hjk x hx
        · obtain rfl : j = k := by omega
          obtain rfl : w = x := Option.some.inj (hrev.symm.trans hx)
          assumption
    · have : R = d.safe.getD n.toNat zeroS := by rw [← hR, lastAt_none (fun j hj => k2 j (by omega))]
      obtain ⟨s, hsn⟩ := lt_get (l := d.safe) (k := n.toNat) (by omega)
      have hsl := hd1 s (List.mem_of_getElem? hsn)
      rw [List.getD_eq_getElem?_getD, hsn] at this
      have this : R = s := this
      rw [this]
      (repeat' ((conv => whnf); first | (with_reducible first | refine Spl.tt ?_ | refine Spl.ff ?_) | ((with_reducible refine letC_id ?_); refine LetC.mk ((encS s).map AV.d) (st_tk (by rw [encS_len]; exact hsl)) ?_) | with_reducible refine AtA.mk' ?_ | with_reducible refine at_him (x := s) (by omega) hsn ?_ | (with_reducible first | refine draw_auto ti_ok mixed (by decide +kernel) ?_ | refine g_i64 ?_ | refine g_u64 ?_ | refine g_u8 ?_ | refine g_iq ?_ | refine g_uq ?_ | refine g_rem ?_ | refine LetN.mk ?_ | refine g_hm ?_ | refine g_hb ?_ | refine g_lit ?_ | refine g_nm8 (fun x hx hu => ?_) | refine g_n8 (fun x hx hu => ?_) | refine g_b8 (fun x hx hu => ?_) | refine g_nm (fun x hx => ?_) | refine g_im (fun x hx => ?_) | refine g_n (fun x hx => ?_) | refine g_b (fun x hx => ?_) | refine g_and ?_ | refine g_c ?_ | refine Both.mk ?_ ?_ | refine NilS.ts ?_ | refine LetE.now ?_ | refine AtD.now ?_ | refine LetC.now ?_ | refine g_some ?_ | refine g_yk ?_ | refine g_nk ?_ | refine g_y ?_ | refine g_f ?_ | refine AtA.mk' ?_ | refine Spl.pd (fun h => ?_) (fun h => ?_) | refine Spl.peq (fun h => ?_) (fun h => ?_) | refine Spl.pne (fun h => ?_) (fun h => ?_) | refine Spl.seq (fun h => ?_) (fun h => ?_) | refine Spl.sne (fun h => ?_) (fun h => ?_) | refine Spl.nt ?_ | refine Spl.mk (fun h => ?_) (fun h => ?_))))
      conv => whnf
      conv in (ldA _ _ _) => tactic => exact ld_sec rfl rfl hsl
      rfl
end Go.Proofs.YtenomegafkileaaGreatDoor

/- Inodes and entries of a disk, and of an image. Conditions: none. -/
namespace Go.Proofs.YtenomegafkileaaGreatDoor
open Go.Sy
set_option maxRecDepth 100000
set_option linter.all false
def inoB (s : List UInt8) : Prop := RI (inoOfR s) ∧ s = inoS (inoOfR s)
instance (s : List UInt8) : Decidable (inoB s) := by unfold inoB; infer_instance
def inoOf (s : List UInt8) : Ino := if inoB s then inoOfR s else ino0
theorem inoOfV_eq (s : List UInt8) : inoOfV s = .tup [.dg 6 (encI (inoOf s)), .d (.bl (decide (inoB s)))] := by
  unfold inoOfV inoOf
  by_cases h : inoB s
  · have h' : RI (inoOfR s) ∧ s = inoS (inoOfR s) := h
    rw [if_pos h', if_pos h, decide_eq_true h]
  · have h' : ¬ (RI (inoOfR s) ∧ s = inoS (inoOfR s)) := h
    rw [if_neg h', if_neg h, decide_eq_false h]
/-- Inode n, entry k of a disk by its sectors. -/
def inoAt (f : Int → List UInt8) (n : Int) : Ino := if 0 ≤ n ∧ n < 16 then inoOf (f (1 + n)) else ino0
def entAt (f : Int → List UInt8) (k : Int) : Ent := if 0 ≤ k ∧ k < 24 then entOf (f (17 + k)) else ent0
/-- A sector of an image. -/
def imS (m : List (List UInt8)) (n : Int) : List UInt8 := m.getD n.toNat zeroS
def ImOK (m : List (List UInt8)) : Prop := ∀ s ∈ m, s.length = 32
theorem imS_len {m : List (List UInt8)} (h : ImOK m) (n : Int) : (imS m n).length = 32 := by
  unfold imS
  rw [List.getD_eq_getElem?_getD]
  cases hq : m[n.toNat]? with
  | none => rfl
  | some s => exact h s (List.mem_of_getElem? hq)
abbrev encM (m : List (List UInt8)) : D := .fs 32 (m.map encS)
theorem at_ok (d : Option Dk) (hd : DkOK d) (n : Int) : FnC Tryz.prog 41 [.d (encD d), .d (.it .i64 n)] (.dg 32 (encS (rdS d n))) := by
  have hr := read_ok d hd n
  have hl := rdS_len hd n
  refine FnC.intro ti_ok Tryz.func41 rfl Tryz.ntmps41 Tryz.call41 rfl (Nat.le_of_ble_eq_true rfl) rfl ?_
  (repeat' ((conv => whnf); first | (with_reducible first | refine Spl.tt ?_ | refine Spl.ff ?_) | ((with_reducible refine callE_id ?_); (refine CallE.con ⟨_, hr, ?_⟩)) | ((with_reducible refine letC_id ?_); refine LetC.mk ((encS (rdS d n)).map AV.d) (st_all _) ?_) | refine AtA.eq (ld_sec rfl rfl hl) ?_ | (with_reducible first | refine draw_auto ti_ok mixed (by decide +kernel) ?_ | refine g_i64 ?_ | refine g_u64 ?_ | refine g_u8 ?_ | refine g_iq ?_ | refine g_uq ?_ | refine g_rem ?_ | refine LetN.mk ?_ | refine g_hm ?_ | refine g_hb ?_ | refine g_lit ?_ | refine g_nm8 (fun x hx hu => ?_) | refine g_n8 (fun x hx hu => ?_) | refine g_b8 (fun x hx hu => ?_) | refine g_nm (fun x hx => ?_) | refine g_im (fun x hx => ?_) | refine g_n (fun x hx => ?_) | refine g_b (fun x hx => ?_) | refine g_and ?_ | refine g_c ?_ | refine Both.mk ?_ ?_ | refine NilS.ts ?_ | refine LetE.now ?_ | refine AtD.now ?_ | refine LetC.now ?_ | refine g_some ?_ | refine g_yk ?_ | refine g_nk ?_ | refine g_y ?_ | refine g_f ?_ | refine AtA.mk' ?_ | refine Spl.pd (fun h => ?_) (fun h => ?_) | refine Spl.peq (fun h => ?_) (fun h => ?_) | refine Spl.pne (fun h => ?_) (fun h => ?_) | refine Spl.seq (fun h => ?_) (fun h => ?_) | refine Spl.sne (fun h => ?_) (fun h => ?_) | refine Spl.nt ?_ | refine Spl.mk (fun h => ?_) (fun h => ?_))))
  conv => whnf
  conv in (ldA _ _ _) => tactic => exact ld_sec rfl rfl hl
  rfl
theorem refAt_ok (m : List (List UInt8)) (hm : ImOK m) (n : Int) (h0 : 0 ≤ n) : FnC Tryz.prog 50 [.d (encM m), .d (.it .i64 n)] (.dg 32 (encS (imS m n))) := by
  have hl := imS_len hm n
  have hml : (m.map encS).length = m.length := List.length_map ..
  refine FnC.intro ti_ok Tryz.func50 rfl Tryz.ntmps50 Tryz.call50 rfl (Nat.le_of_ble_eq_true rfl) rfl ?_
  rcases Int.lt_or_le n (m.length : Int) with h | h
  · obtain ⟨s, hs⟩ := lt_get (l := m) (k := n.toNat) (by omega)
    have he : imS m n = s := by unfold imS; rw [List.getD_eq_getElem?_getD, hs]; rfl
    rw [he] at hl ⊢
    (repeat' ((conv => whnf); first | (with_reducible first | refine Spl.tt ?_ | refine Spl.ff ?_) | ((with_reducible refine letC_id ?_); refine LetC.mk ((encS s).map AV.d) (st_tk (by rw [encS_len]; exact hl)) ?_) | with_reducible refine AtA.mk' ?_ | with_reducible refine at_him (x := s) (by omega) hs ?_ | (with_reducible first | refine draw_auto ti_ok mixed (by decide +kernel) ?_ | refine g_i64 ?_ | refine g_u64 ?_ | refine g_u8 ?_ | refine g_iq ?_ | refine g_uq ?_ | refine g_rem ?_ | refine LetN.mk ?_ | refine g_hm ?_ | refine g_hb ?_ | refine g_lit ?_ | refine g_nm8 (fun x hx hu => ?_) | refine g_n8 (fun x hx hu => ?_) | refine g_b8 (fun x hx hu => ?_) | refine g_nm (fun x hx => ?_) | refine g_im (fun x hx => ?_) | refine g_n (fun x hx => ?_) | refine g_b (fun x hx => ?_) | refine g_and ?_ | refine g_c ?_ | refine Both.mk ?_ ?_ | refine NilS.ts ?_ | refine LetE.now ?_ | refine AtD.now ?_ | refine LetC.now ?_ | refine g_some ?_ | refine g_yk ?_ | refine g_nk ?_ | refine g_y ?_ | refine g_f ?_ | refine AtA.mk' ?_ | refine Spl.pd (fun h => ?_) (fun h => ?_) | refine Spl.peq (fun h => ?_) (fun h => ?_) | refine Spl.pne (fun h => ?_) (fun h => ?_) | refine Spl.seq (fun h => ?_) (fun h => ?_) | refine Spl.sne (fun h => ?_) (fun h => ?_) | refine Spl.nt ?_ | refine Spl.mk (fun h => ?_) (fun h => ?_))))
    all_goals first | omega | skip
    conv => whnf
    conv in (ldA _ _ _) => tactic => exact ld_sec rfl rfl hl
    rfl
  · have he : imS m n = zeroS := by unfold imS; rw [List.getD_eq_getElem?_getD, List.getElem?_eq_none (by omega)]; rfl
    rw [he]
    (repeat' ((conv => whnf); first | (with_reducible first | refine Spl.tt ?_ | refine Spl.ff ?_) | with_reducible refine AtA.mk' ?_ | (with_reducible first | refine draw_auto ti_ok mixed (by decide +kernel) ?_ | refine g_i64 ?_ | refine g_u64 ?_ | refine g_u8 ?_ | refine g_iq ?_ | refine g_uq ?_ | refine g_rem ?_ | refine LetN.mk ?_ | refine g_hm ?_ | refine g_hb ?_ | refine g_lit ?_ | refine g_nm8 (fun x hx hu => ?_) | refine g_n8 (fun x hx hu => ?_) | refine g_b8 (fun x hx hu => ?_) | refine g_nm (fun x hx => ?_) | refine g_im (fun x hx => ?_) | refine g_n (fun x hx => ?_) | refine g_b (fun x hx => ?_) | refine g_and ?_ | refine g_c ?_ | refine Both.mk ?_ ?_ | refine NilS.ts ?_ | refine LetE.now ?_ | refine AtD.now ?_ | refine LetC.now ?_ | refine g_some ?_ | refine g_yk ?_ | refine g_nk ?_ | refine g_y ?_ | refine g_f ?_ | refine AtA.mk' ?_ | refine Spl.pd (fun h => ?_) (fun h => ?_) | refine Spl.peq (fun h => ?_) (fun h => ?_) | refine Spl.pne (fun h => ?_) (fun h => ?_) | refine Spl.seq (fun h => ?_) (fun h => ?_) | refine Spl.sne (fun h => ?_) (fun h => ?_) | refine Spl.nt ?_ | refine Spl.mk (fun h => ?_) (fun h => ?_))))
    all_goals first | omega | rfl
theorem inode_ok (d : Option Dk) (hd : DkOK d) (n : Int) : FnC Tryz.prog 30 [.d (encD d), .d (.it .i64 n)] (.dg 6 (encI (inoAt (rdS d) n))) := by
  by_cases h : 0 ≤ n ∧ n < 16
  · have ha := at_ok d hd (1 + n)
    have hi := inoOf_ok (rdS d (1 + n)) (rdS_len hd _)
    rw [inoOfV_eq] at hi
    rw [show inoAt (rdS d) n = inoOf (rdS d (1 + n)) from if_pos h]
    refine FnC.intro ti_ok Tryz.func30 rfl Tryz.ntmps30 Tryz.call30 rfl (Nat.le_of_ble_eq_true rfl) rfl ?_
    (repeat' ((conv => whnf); first | (with_reducible first | refine Spl.tt ?_ | refine Spl.ff ?_) | ((with_reducible refine callE_id ?_); first | (refine CallE.con ⟨_, ha, ?_⟩) | (refine CallE.con ⟨_, hi, ?_⟩)) | (with_reducible first | refine draw_auto ti_ok mixed (by decide +kernel) ?_ | refine g_i64 ?_ | refine g_u64 ?_ | refine g_u8 ?_ | refine g_iq ?_ | refine g_uq ?_ | refine g_rem ?_ | refine LetN.mk ?_ | refine g_hm ?_ | refine g_hb ?_ | refine g_lit ?_ | refine g_nm8 (fun x hx hu => ?_) | refine g_n8 (fun x hx hu => ?_) | refine g_b8 (fun x hx hu => ?_) | refine g_nm (fun x hx => ?_) | refine g_im (fun x hx => ?_) | refine g_n (fun x hx => ?_) | refine g_b (fun x hx => ?_) | refine g_and ?_ | refine g_c ?_ | refine Both.mk ?_ ?_ | refine NilS.ts ?_ | refine LetE.now ?_ | refine AtD.now ?_ | refine LetC.now ?_ | refine g_some ?_ | refine g_yk ?_ | refine g_nk ?_ | refine g_y ?_ | refine g_f ?_ | refine AtA.mk' ?_ | refine Spl.pd (fun h => ?_) (fun h => ?_) | refine Spl.peq (fun h => ?_) (fun h => ?_) | refine Spl.pne (fun h => ?_) (fun h => ?_) | refine Spl.seq (fun h => ?_) (fun h => ?_) | refine Spl.sne (fun h => ?_) (fun h => ?_) | refine Spl.nt ?_ | refine Spl.mk (fun h => ?_) (fun h => ?_))))
    rfl
  · rw [show inoAt (rdS d) n = ino0 from if_neg h]
    refine FnC.intro ti_ok Tryz.func30 rfl Tryz.ntmps30 Tryz.call30 rfl (Nat.le_of_ble_eq_true rfl) rfl ?_
    by_cases h0 : n < 0
    all_goals (repeat' ((conv => whnf); first | (with_reducible first | refine Spl.tt ?_ | refine Spl.ff ?_) | (with_reducible first | refine draw_auto ti_ok mixed (by decide +kernel) ?_ | refine g_i64 ?_ | refine g_u64 ?_ | refine g_u8 ?_ | refine g_iq ?_ | refine g_uq ?_ | refine g_rem ?_ | refine LetN.mk ?_ | refine g_hm ?_ | refine g_hb ?_ | refine g_lit ?_ | refine g_nm8 (fun x hx hu => ?_) | refine g_n8 (fun x hx hu => ?_) | refine g_b8 (fun x hx hu => ?_) | refine g_nm (fun x hx => ?_) | refine g_im (fun x hx => ?_) | refine g_n (fun x hx => ?_) | refine g_b (fun x hx => ?_) | refine g_and ?_ | refine g_c ?_ | refine Both.mk ?_ ?_ | refine NilS.ts ?_ | refine LetE.now ?_ | refine AtD.now ?_ | refine LetC.now ?_ | refine g_some ?_ | refine g_yk ?_ | refine g_nk ?_ | refine g_y ?_ | refine g_f ?_ | refine AtA.mk' ?_ | refine Spl.pd (fun h => ?_) (fun h => ?_) | refine Spl.peq (fun h => ?_) (fun h => ?_) | refine Spl.pne (fun h => ?_) (fun h => ?_) | refine Spl.seq (fun h => ?_) (fun h => ?_) | refine Spl.sne (fun h => ?_) (fun h => ?_) | refine Spl.nt ?_ | refine Spl.mk (fun h => ?_) (fun h => ?_))))
    all_goals first | omega | rfl
theorem refInode_ok (m : List (List UInt8)) (hm : ImOK m) (n : Int) : FnC Tryz.prog 37 [.d (encM m), .d (.it .i64 n)] (.dg 6 (encI (inoAt (imS m) n))) := by
  by_cases h : 0 ≤ n ∧ n < 16
  · have ha := refAt_ok m hm (1 + n) (by omega)
    have hi := refInoOf_ok (imS m (1 + n)) (imS_len hm _)
    rw [inoOfV_eq] at hi
    rw [show inoAt (imS m) n = inoOf (imS m (1 + n)) from if_pos h]
    refine FnC.intro ti_ok Tryz.func37 rfl Tryz.ntmps37 Tryz.call37 rfl (Nat.le_of_ble_eq_true rfl) rfl ?_
    (repeat' ((conv => whnf); first | (with_reducible first | refine Spl.tt ?_ | refine Spl.ff ?_) | ((with_reducible refine callE_id ?_); first | (refine CallE.con ⟨_, ha, ?_⟩) | (refine CallE.con ⟨_, hi, ?_⟩)) | (with_reducible first | refine draw_auto ti_ok mixed (by decide +kernel) ?_ | refine g_i64 ?_ | refine g_u64 ?_ | refine g_u8 ?_ | refine g_iq ?_ | refine g_uq ?_ | refine g_rem ?_ | refine LetN.mk ?_ | refine g_hm ?_ | refine g_hb ?_ | refine g_lit ?_ | refine g_nm8 (fun x hx hu => ?_) | refine g_n8 (fun x hx hu => ?_) | refine g_b8 (fun x hx hu => ?_) | refine g_nm (fun x hx => ?_) | refine g_im (fun x hx => ?_) | refine g_n (fun x hx => ?_) | refine g_b (fun x hx => ?_) | refine g_and ?_ | refine g_c ?_ | refine Both.mk ?_ ?_ | refine NilS.ts ?_ | refine LetE.now ?_ | refine AtD.now ?_ | refine LetC.now ?_ | refine g_some ?_ | refine g_yk ?_ | refine g_nk ?_ | refine g_y ?_ | refine g_f ?_ | refine AtA.mk' ?_ | refine Spl.pd (fun h => ?_) (fun h => ?_) | refine Spl.peq (fun h => ?_) (fun h => ?_) | refine Spl.pne (fun h => ?_) (fun h => ?_) | refine Spl.seq (fun h => ?_) (fun h => ?_) | refine Spl.sne (fun h => ?_) (fun h => ?_) | refine Spl.nt ?_ | refine Spl.mk (fun h => ?_) (fun h => ?_))))
    rfl
  · rw [show inoAt (imS m) n = ino0 from if_neg h]
    refine FnC.intro ti_ok Tryz.func37 rfl Tryz.ntmps37 Tryz.call37 rfl (Nat.le_of_ble_eq_true rfl) rfl ?_
    by_cases h0 : n < 0
    all_goals (repeat' ((conv => whnf); first | (with_reducible first | refine Spl.tt ?_ | refine Spl.ff ?_) | (with_reducible first | refine draw_auto ti_ok mixed (by decide +kernel) ?_ | refine g_i64 ?_ | refine g_u64 ?_ | refine g_u8 ?_ | refine g_iq ?_ | refine g_uq ?_ | refine g_rem ?_ | refine LetN.mk ?_ | refine g_hm ?_ | refine g_hb ?_ | refine g_lit ?_ | refine g_nm8 (fun x hx hu => ?_) | refine g_n8 (fun x hx hu => ?_) | refine g_b8 (fun x hx hu => ?_) | refine g_nm (fun x hx => ?_) | refine g_im (fun x hx => ?_) | refine g_n (fun x hx => ?_) | refine g_b (fun x hx => ?_) | refine g_and ?_ | refine g_c ?_ | refine Both.mk ?_ ?_ | refine NilS.ts ?_ | refine LetE.now ?_ | refine AtD.now ?_ | refine LetC.now ?_ | refine g_some ?_ | refine g_yk ?_ | refine g_nk ?_ | refine g_y ?_ | refine g_f ?_ | refine AtA.mk' ?_ | refine Spl.pd (fun h => ?_) (fun h => ?_) | refine Spl.peq (fun h => ?_) (fun h => ?_) | refine Spl.pne (fun h => ?_) (fun h => ?_) | refine Spl.seq (fun h => ?_) (fun h => ?_) | refine Spl.sne (fun h => ?_) (fun h => ?_) | refine Spl.nt ?_ | refine Spl.mk (fun h => ?_) (fun h => ?_))))
    all_goals first | omega | rfl
theorem entry_ok (d : Option Dk) (hd : DkOK d) (n : Int) : FnC Tryz.prog 31 [.d (encD d), .d (.it .i64 n)] (.dg 4 (encE (entAt (rdS d) n))) := by
  by_cases h : 0 ≤ n ∧ n < 24
  · have ha := at_ok d hd (17 + n)
    have hi := entOf_ok (rdS d (17 + n)) (rdS_len hd _)
    rw [entOfV] at hi
    rw [show entAt (rdS d) n = entOf (rdS d (17 + n)) from if_pos h]
    refine FnC.intro ti_ok Tryz.func31 rfl Tryz.ntmps31 Tryz.call31 rfl (Nat.le_of_ble_eq_true rfl) rfl ?_
    (repeat' ((conv => whnf); first | (with_reducible first | refine Spl.tt ?_ | refine Spl.ff ?_) | ((with_reducible refine callE_id ?_); first | (refine CallE.con ⟨_, ha, ?_⟩) | (refine CallE.con ⟨_, hi, ?_⟩)) | (with_reducible first | refine draw_auto ti_ok mixed (by decide +kernel) ?_ | refine g_i64 ?_ | refine g_u64 ?_ | refine g_u8 ?_ | refine g_iq ?_ | refine g_uq ?_ | refine g_rem ?_ | refine LetN.mk ?_ | refine g_hm ?_ | refine g_hb ?_ | refine g_lit ?_ | refine g_nm8 (fun x hx hu => ?_) | refine g_n8 (fun x hx hu => ?_) | refine g_b8 (fun x hx hu => ?_) | refine g_nm (fun x hx => ?_) | refine g_im (fun x hx => ?_) | refine g_n (fun x hx => ?_) | refine g_b (fun x hx => ?_) | refine g_and ?_ | refine g_c ?_ | refine Both.mk ?_ ?_ | refine NilS.ts ?_ | refine LetE.now ?_ | refine AtD.now ?_ | refine LetC.now ?_ | refine g_some ?_ | refine g_yk ?_ | refine g_nk ?_ | refine g_y ?_ | refine g_f ?_ | refine AtA.mk' ?_ | refine Spl.pd (fun h => ?_) (fun h => ?_) | refine Spl.peq (fun h => ?_) (fun h => ?_) | refine Spl.pne (fun h => ?_) (fun h => ?_) | refine Spl.seq (fun h => ?_) (fun h => ?_) | refine Spl.sne (fun h => ?_) (fun h => ?_) | refine Spl.nt ?_ | refine Spl.mk (fun h => ?_) (fun h => ?_))))
    rfl
  · rw [show entAt (rdS d) n = ent0 from if_neg h]
    refine FnC.intro ti_ok Tryz.func31 rfl Tryz.ntmps31 Tryz.call31 rfl (Nat.le_of_ble_eq_true rfl) rfl ?_
    by_cases h0 : n < 0
    all_goals (repeat' ((conv => whnf); first | (with_reducible first | refine Spl.tt ?_ | refine Spl.ff ?_) | (with_reducible first | refine draw_auto ti_ok mixed (by decide +kernel) ?_ | refine g_i64 ?_ | refine g_u64 ?_ | refine g_u8 ?_ | refine g_iq ?_ | refine g_uq ?_ | refine g_rem ?_ | refine LetN.mk ?_ | refine g_hm ?_ | refine g_hb ?_ | refine g_lit ?_ | refine g_nm8 (fun x hx hu => ?_) | refine g_n8 (fun x hx hu => ?_) | refine g_b8 (fun x hx hu => ?_) | refine g_nm (fun x hx => ?_) | refine g_im (fun x hx => ?_) | refine g_n (fun x hx => ?_) | refine g_b (fun x hx => ?_) | refine g_and ?_ | refine g_c ?_ | refine Both.mk ?_ ?_ | refine NilS.ts ?_ | refine LetE.now ?_ | refine AtD.now ?_ | refine LetC.now ?_ | refine g_some ?_ | refine g_yk ?_ | refine g_nk ?_ | refine g_y ?_ | refine g_f ?_ | refine AtA.mk' ?_ | refine Spl.pd (fun h => ?_) (fun h => ?_) | refine Spl.peq (fun h => ?_) (fun h => ?_) | refine Spl.pne (fun h => ?_) (fun h => ?_) | refine Spl.seq (fun h => ?_) (fun h => ?_) | refine Spl.sne (fun h => ?_) (fun h => ?_) | refine Spl.nt ?_ | refine Spl.mk (fun h => ?_) (fun h => ?_))))
    all_goals first | omega | rfl
theorem refEntry_ok (m : List (List UInt8)) (hm : ImOK m) (n : Int) : FnC Tryz.prog 36 [.d (encM m), .d (.it .i64 n)] (.dg 4 (encE (entAt (imS m) n))) := by
  by_cases h : 0 ≤ n ∧ n < 24
  · have ha := refAt_ok m hm (17 + n) (by omega)
    have hi := refEntOf_ok (imS m (17 + n)) (imS_len hm _)
    rw [entOfV] at hi
    rw [show entAt (imS m) n = entOf (imS m (17 + n)) from if_pos h]
    refine FnC.intro ti_ok Tryz.func36 rfl Tryz.ntmps36 Tryz.call36 rfl (Nat.le_of_ble_eq_true rfl) rfl ?_
    (repeat' ((conv => whnf); first | (with_reducible first | refine Spl.tt ?_ | refine Spl.ff ?_) | ((with_reducible refine callE_id ?_); first | (refine CallE.con ⟨_, ha, ?_⟩) | (refine CallE.con ⟨_, hi, ?_⟩)) | (with_reducible first | refine draw_auto ti_ok mixed (by decide +kernel) ?_ | refine g_i64 ?_ | refine g_u64 ?_ | refine g_u8 ?_ | refine g_iq ?_ | refine g_uq ?_ | refine g_rem ?_ | refine LetN.mk ?_ | refine g_hm ?_ | refine g_hb ?_ | refine g_lit ?_ | refine g_nm8 (fun x hx hu => ?_) | refine g_n8 (fun x hx hu => ?_) | refine g_b8 (fun x hx hu => ?_) | refine g_nm (fun x hx => ?_) | refine g_im (fun x hx => ?_) | refine g_n (fun x hx => ?_) | refine g_b (fun x hx => ?_) | refine g_and ?_ | refine g_c ?_ | refine Both.mk ?_ ?_ | refine NilS.ts ?_ | refine LetE.now ?_ | refine AtD.now ?_ | refine LetC.now ?_ | refine g_some ?_ | refine g_yk ?_ | refine g_nk ?_ | refine g_y ?_ | refine g_f ?_ | refine AtA.mk' ?_ | refine Spl.pd (fun h => ?_) (fun h => ?_) | refine Spl.peq (fun h => ?_) (fun h => ?_) | refine Spl.pne (fun h => ?_) (fun h => ?_) | refine Spl.seq (fun h => ?_) (fun h => ?_) | refine Spl.sne (fun h => ?_) (fun h => ?_) | refine Spl.nt ?_ | refine Spl.mk (fun h => ?_) (fun h => ?_))))
    rfl
  · rw [show entAt (imS m) n = ent0 from if_neg h]
    refine FnC.intro ti_ok Tryz.func36 rfl Tryz.ntmps36 Tryz.call36 rfl (Nat.le_of_ble_eq_true rfl) rfl ?_
    by_cases h0 : n < 0
    all_goals (repeat' ((conv => whnf); first | (with_reducible first | refine Spl.tt ?_ | refine Spl.ff ?_) | (with_reducible first | refine draw_auto ti_ok mixed (by decide +kernel) ?_ | refine g_i64 ?_ | refine g_u64 ?_ | refine g_u8 ?_ | refine g_iq ?_ | refine g_uq ?_ | refine g_rem ?_ | refine LetN.mk ?_ | refine g_hm ?_ | refine g_hb ?_ | refine g_lit ?_ | refine g_nm8 (fun x hx hu => ?_) | refine g_n8 (fun x hx hu => ?_) | refine g_b8 (fun x hx hu => ?_) | refine g_nm (fun x hx => ?_) | refine g_im (fun x hx => ?_) | refine g_n (fun x hx => ?_) | refine g_b (fun x hx => ?_) | refine g_and ?_ | refine g_c ?_ | refine Both.mk ?_ ?_ | refine NilS.ts ?_ | refine LetE.now ?_ | refine AtD.now ?_ | refine LetC.now ?_ | refine g_some ?_ | refine g_yk ?_ | refine g_nk ?_ | refine g_y ?_ | refine g_f ?_ | refine AtA.mk' ?_ | refine Spl.pd (fun h => ?_) (fun h => ?_) | refine Spl.peq (fun h => ?_) (fun h => ?_) | refine Spl.pne (fun h => ?_) (fun h => ?_) | refine Spl.seq (fun h => ?_) (fun h => ?_) | refine Spl.sne (fun h => ?_) (fun h => ?_) | refine Spl.nt ?_ | refine Spl.mk (fun h => ?_) (fun h => ?_))))
    all_goals first | omega | rfl
end Go.Proofs.YtenomegafkileaaGreatDoor

/- Is an inode taken? Is it a disk of files? Conditions: none. -/
namespace Go.Proofs.YtenomegafkileaaGreatDoor
open Go.Sy
set_option maxRecDepth 100000
set_option linter.all false
def takP (f : Int → List UInt8) (n : Int) : Prop := n = 0 ∨ ∃ k : Nat, k < 24 ∧ (entAt f k).u = true ∧ (entAt f k).t = n
instance (f : Int → List UInt8) (n : Int) : Decidable (takP f n) := by unfold takP; infer_instance
set_option maxHeartbeats 4000000 in
theorem taken_ok (d : Option Dk) (hd : DkOK d) (n : Int) : FnC Tryz.prog 49 [.d (encD d), .d (.it .i64 n)] (.d (.bl (decide (takP (rdS d) n)))) := by
  have he := fun k => entry_ok d hd k
  refine FnC.intro ti_ok Tryz.func49 rfl Tryz.ntmps49 Tryz.call49 rfl (Nat.le_of_ble_eq_true rfl) rfl ?_
  (repeat' ((conv => whnf); first | (with_reducible first | refine Spl.tt ?_ | refine Spl.ff ?_) | ((with_reducible refine callE_id ?_); refine CallE.inl ?_) | with_reducible refine CallI.inl ti_ok i61 rfl ?_ | with_reducible refine AtA.mk' ?_ | (with_reducible first | refine draw_auto ti_ok mixed (by decide +kernel) ?_ | refine g_i64 ?_ | refine g_u64 ?_ | refine g_u8 ?_ | refine g_iq ?_ | refine g_uq ?_ | refine g_rem ?_ | refine LetN.mk ?_ | refine g_hm ?_ | refine g_hb ?_ | refine g_lit ?_ | refine g_nm8 (fun x hx hu => ?_) | refine g_n8 (fun x hx hu => ?_) | refine g_b8 (fun x hx hu => ?_) | refine g_nm (fun x hx => ?_) | refine g_im (fun x hx => ?_) | refine g_n (fun x hx => ?_) | refine g_b (fun x hx => ?_) | refine g_and ?_ | refine g_c ?_ | refine Both.mk ?_ ?_ | refine NilS.ts ?_ | refine LetE.now ?_ | refine AtD.now ?_ | refine LetC.now ?_ | refine g_some ?_ | refine g_yk ?_ | refine g_nk ?_ | refine g_y ?_ | refine g_f ?_ | refine AtA.mk' ?_ | refine Spl.pd (fun h => ?_) (fun h => ?_) | refine Spl.peq (fun h => ?_) (fun h => ?_) | refine Spl.pne (fun h => ?_) (fun h => ?_) | refine Spl.seq (fun h => ?_) (fun h => ?_) | refine Spl.sne (fun h => ?_) (fun h => ?_) | refine Spl.nt ?_ | refine Spl.mk (fun h => ?_) (fun h => ?_))))
  refine RangeS.intro ti_ok i70 rfl rfl ?_
  (repeat' ((conv => whnf); first | (with_reducible first | refine Spl.tt ?_ | refine Spl.ff ?_) | (with_reducible first | refine draw_auto ti_ok mixed (by decide +kernel) ?_ | refine g_i64 ?_ | refine g_u64 ?_ | refine g_u8 ?_ | refine g_iq ?_ | refine g_uq ?_ | refine g_rem ?_ | refine LetN.mk ?_ | refine g_hm ?_ | refine g_hb ?_ | refine g_lit ?_ | refine g_nm8 (fun x hx hu => ?_) | refine g_n8 (fun x hx hu => ?_) | refine g_b8 (fun x hx hu => ?_) | refine g_nm (fun x hx => ?_) | refine g_im (fun x hx => ?_) | refine g_n (fun x hx => ?_) | refine g_b (fun x hx => ?_) | refine g_and ?_ | refine g_c ?_ | refine Both.mk ?_ ?_ | refine NilS.ts ?_ | refine LetE.now ?_ | refine AtD.now ?_ | refine LetC.now ?_ | refine g_some ?_ | refine g_yk ?_ | refine g_nk ?_ | refine g_y ?_ | refine g_f ?_ | refine AtA.mk' ?_ | refine Spl.pd (fun h => ?_) (fun h => ?_) | refine Spl.peq (fun h => ?_) (fun h => ?_) | refine Spl.pne (fun h => ?_) (fun h => ?_) | refine Spl.seq (fun h => ?_) (fun h => ?_) | refine Spl.sne (fun h => ?_) (fun h => ?_) | refine Spl.nt ?_ | refine Spl.mk (fun h => ?_) (fun h => ?_))))
  refine loop_mem0 ti_ok (fun k : Nat => k ≤ 24 ∧ ∀ j : Nat, j < k → ¬ ((entAt (rdS d) j).u = true ∧ (entAt (rdS d) j).t = n)) (fun k : Nat => [(0, .yld 5), (1, .ptr 3 0), (5, .d (.it .i64 (k : Nat)))]) (fun k => 24 - k) 0 ⟨Nat.zero_le _, fun j hj => by omega⟩ ⟨rfl, rfl, rfl, trivial⟩ rfl ?_
  intro k ⟨k1, k2⟩
  rcases Nat.lt_or_ge k 24 with hk | hk
  · have hek := he (k : Nat)
    cases hu : (entAt (rdS d) k).u with
    | false =>
      have hek' : encE (entAt (rdS d) k) = [.bl false, .it .i64 (entAt (rdS d) k).p, .st (entAt (rdS d) k).n, .it .i64 (entAt (rdS d) k).t] := by rw [encE, hu]
      rw [hek'] at hek
      (repeat' ((conv => whnf); first | (with_reducible first | refine Spl.tt ?_ | refine Spl.ff ?_) | ((with_reducible refine callE_id ?_); (refine CallE.con ⟨_, hek, ?_⟩)) | (with_reducible first | refine draw_auto ti_ok mixed (by decide +kernel) ?_ | refine g_i64 ?_ | refine g_u64 ?_ | refine g_u8 ?_ | refine g_iq ?_ | refine g_uq ?_ | refine g_rem ?_ | refine LetN.mk ?_ | refine g_hm ?_ | refine g_hb ?_ | refine g_lit ?_ | refine g_nm8 (fun x hx hu => ?_) | refine g_n8 (fun x hx hu => ?_) | refine g_b8 (fun x hx hu => ?_) | refine g_nm (fun x hx => ?_) | refine g_im (fun x hx => ?_) | refine g_n (fun x hx => ?_) | refine g_b (fun x hx => ?_) | refine g_and ?_ | refine g_c ?_ | refine Both.mk ?_ ?_ | refine NilS.ts ?_ | refine LetE.now ?_ | refine AtD.now ?_ | refine LetC.now ?_ | refine g_some ?_ | refine g_yk ?_ | refine g_nk ?_ | refine g_y ?_ | refine g_f ?_ | refine AtA.mk' ?_ | refine Spl.pd (fun h => ?_) (fun h => ?_) | refine Spl.peq (fun h => ?_) (fun h => ?_) | refine Spl.pne (fun h => ?_) (fun h => ?_) | refine Spl.seq (fun h => ?_) (fun h => ?_) | refine Spl.sne (fun h => ?_) (fun h => ?_) | refine Spl.nt ?_ | refine Spl.mk (fun h => ?_) (fun h => ?_))))
      refine againM0 (k + 1) ⟨by omega, fun j hj => ?_⟩ (by dsimp only; omega) (And.intro rfl (And.intro rfl (And.intro (it_eq (by omega)) trivial))) (by (repeat (first | exact trivial | refine And.intro rfl ?_))) rfl
      rcases Nat.lt_or_ge j k with hjk | hjk
      · exact k2 j hjk
      · obtain rfl : j = k := by omega
        rw [hu]; simp
    | true =>
      have hek' : encE (entAt (rdS d) k) = [.bl true, .it .i64 (entAt (rdS d) k).p, .st (entAt (rdS d) k).n, .it .i64 (entAt (rdS d) k).t] := by rw [encE, hu]
      rw [hek'] at hek
      (repeat' ((conv => whnf); first | (with_reducible first | refine Spl.tt ?_ | refine Spl.ff ?_) | ((with_reducible refine callE_id ?_); (refine CallE.con ⟨_, hek, ?_⟩)) | with_reducible refine YieldI.intro ti_ok (by with_unfolding_all exact rfl) (by with_unfolding_all exact rfl) (by with_unfolding_all exact rfl) ?_ | (with_reducible first | refine draw_auto ti_ok mixed (by decide +kernel) ?_ | refine g_i64 ?_ | refine g_u64 ?_ | refine g_u8 ?_ | refine g_iq ?_ | refine g_uq ?_ | refine g_rem ?_ | refine LetN.mk ?_ | refine g_hm ?_ | refine g_hb ?_ | refine g_lit ?_ | refine g_nm8 (fun x hx hu => ?_) | refine g_n8 (fun x hx hu => ?_) | refine g_b8 (fun x hx hu => ?_) | refine g_nm (fun x hx => ?_) | refine g_im (fun x hx => ?_) | refine g_n (fun x hx => ?_) | refine g_b (fun x hx => ?_) | refine g_and ?_ | refine g_c ?_ | refine Both.mk ?_ ?_ | refine NilS.ts ?_ | refine LetE.now ?_ | refine AtD.now ?_ | refine LetC.now ?_ | refine g_some ?_ | refine g_yk ?_ | refine g_nk ?_ | refine g_y ?_ | refine g_f ?_ | refine AtA.mk' ?_ | refine Spl.pd (fun h => ?_) (fun h => ?_) | refine Spl.peq (fun h => ?_) (fun h => ?_) | refine Spl.pne (fun h => ?_) (fun h => ?_) | refine Spl.seq (fun h => ?_) (fun h => ?_) | refine Spl.sne (fun h => ?_) (fun h => ?_) | refine Spl.nt ?_ | refine Spl.mk (fun h => ?_) (fun h => ?_))))
      · exact bl_tt (.inr ⟨k, hk, hu, by assumption⟩)
      · refine againM0 (k + 1) ⟨by omega, fun j hj => ?_⟩ (by dsimp only; omega) (And.intro rfl (And.intro rfl (And.intro (it_eq (by omega)) trivial))) (by (repeat (first | exact trivial | refine And.intro rfl ?_))) rfl
        rcases Nat.lt_or_ge j k with hjk | hjk
        · exact k2 j hjk
        · obtain rfl : j = k := by omega
          exact fun hq => (by assumption : ¬ _) hq.2
  · (repeat' ((conv => whnf); first | (with_reducible first | refine Spl.tt ?_ | refine Spl.ff ?_) | (with_reducible first | refine draw_auto ti_ok mixed (by decide +kernel) ?_ | refine g_i64 ?_ | refine g_u64 ?_ | refine g_u8 ?_ | refine g_iq ?_ | refine g_uq ?_ | refine g_rem ?_ | refine LetN.mk ?_ | refine g_hm ?_ | refine g_hb ?_ | refine g_lit ?_ | refine g_nm8 (fun x hx hu => ?_) | refine g_n8 (fun x hx hu => ?_) | refine g_b8 (fun x hx hu => ?_) | refine g_nm (fun x hx => ?_) | refine g_im (fun x hx => ?_) | refine g_n (fun x hx => ?_) | refine g_b (fun x hx => ?_) | refine g_and ?_ | refine g_c ?_ | refine Both.mk ?_ ?_ | refine NilS.ts ?_ | refine LetE.now ?_ | refine AtD.now ?_ | refine LetC.now ?_ | refine g_some ?_ | refine g_yk ?_ | refine g_nk ?_ | refine g_y ?_ | refine g_f ?_ | refine AtA.mk' ?_ | refine Spl.pd (fun h => ?_) (fun h => ?_) | refine Spl.peq (fun h => ?_) (fun h => ?_) | refine Spl.pne (fun h => ?_) (fun h => ?_) | refine Spl.seq (fun h => ?_) (fun h => ?_) | refine Spl.sne (fun h => ?_) (fun h => ?_) | refine Spl.nt ?_ | refine Spl.mk (fun h => ?_) (fun h => ?_))))
    refine bl_of ?_
    rw [beq_iff_eq]
    refine ⟨fun h => .inl h, fun h => h.elim id fun ⟨j, hj, h1, h2⟩ => absurd ⟨h1, h2⟩ (k2 j (by omega))⟩
set_option maxHeartbeats 4000000 in
theorem refTaken_ok (m : List (List UInt8)) (hm : ImOK m) (n : Int) : FnC Tryz.prog 39 [.d (encM m), .d (.it .i64 n)] (.d (.bl (decide (takP (imS m) n)))) := by
  have he := fun k => refEntry_ok m hm k
  refine FnC.intro ti_ok Tryz.func39 rfl Tryz.ntmps39 Tryz.call39 rfl (Nat.le_of_ble_eq_true rfl) rfl ?_
  (repeat' ((conv => whnf); first | (with_reducible first | refine Spl.tt ?_ | refine Spl.ff ?_) | (with_reducible first | refine draw_auto ti_ok mixed (by decide +kernel) ?_ | refine g_i64 ?_ | refine g_u64 ?_ | refine g_u8 ?_ | refine g_iq ?_ | refine g_uq ?_ | refine g_rem ?_ | refine LetN.mk ?_ | refine g_hm ?_ | refine g_hb ?_ | refine g_lit ?_ | refine g_nm8 (fun x hx hu => ?_) | refine g_n8 (fun x hx hu => ?_) | refine g_b8 (fun x hx hu => ?_) | refine g_nm (fun x hx => ?_) | refine g_im (fun x hx => ?_) | refine g_n (fun x hx => ?_) | refine g_b (fun x hx => ?_) | refine g_and ?_ | refine g_c ?_ | refine Both.mk ?_ ?_ | refine NilS.ts ?_ | refine LetE.now ?_ | refine AtD.now ?_ | refine LetC.now ?_ | refine g_some ?_ | refine g_yk ?_ | refine g_nk ?_ | refine g_y ?_ | refine g_f ?_ | refine AtA.mk' ?_ | refine Spl.pd (fun h => ?_) (fun h => ?_) | refine Spl.peq (fun h => ?_) (fun h => ?_) | refine Spl.pne (fun h => ?_) (fun h => ?_) | refine Spl.seq (fun h => ?_) (fun h => ?_) | refine Spl.sne (fun h => ?_) (fun h => ?_) | refine Spl.nt ?_ | refine Spl.mk (fun h => ?_) (fun h => ?_))))
  refine loop_rule ti_ok (fun k : Nat => k ≤ 24 ∧ ∀ j : Nat, j < k → ¬ ((entAt (imS m) j).u = true ∧ (entAt (imS m) j).t = n)) (fun k : Nat => ⟨[(0, .d (encM m)), (1, .d (.it .i64 n)), (5, .d (.it .i64 (k : Nat)))], [], 0⟩) (fun k => 24 - k) 0 ⟨Nat.zero_le _, fun j hj => by omega⟩ ⟨And.intro rfl (And.intro rfl (And.intro rfl trivial)), trivial, rfl⟩ ?_
  intro k ⟨k1, k2⟩
  rcases Nat.lt_or_ge k 24 with hk | hk
  · have hek := he (k : Nat)
    cases hu : (entAt (imS m) k).u with
    | false =>
      have hek' : encE (entAt (imS m) k) = [.bl false, .it .i64 (entAt (imS m) k).p, .st (entAt (imS m) k).n, .it .i64 (entAt (imS m) k).t] := by rw [encE, hu]
      rw [hek'] at hek
      (repeat' ((conv => whnf); first | (with_reducible first | refine Spl.tt ?_ | refine Spl.ff ?_) | ((with_reducible refine callE_id ?_); (refine CallE.con ⟨_, hek, ?_⟩)) | (with_reducible first | refine draw_auto ti_ok mixed (by decide +kernel) ?_ | refine g_i64 ?_ | refine g_u64 ?_ | refine g_u8 ?_ | refine g_iq ?_ | refine g_uq ?_ | refine g_rem ?_ | refine LetN.mk ?_ | refine g_hm ?_ | refine g_hb ?_ | refine g_lit ?_ | refine g_nm8 (fun x hx hu => ?_) | refine g_n8 (fun x hx hu => ?_) | refine g_b8 (fun x hx hu => ?_) | refine g_nm (fun x hx => ?_) | refine g_im (fun x hx => ?_) | refine g_n (fun x hx => ?_) | refine g_b (fun x hx => ?_) | refine g_and ?_ | refine g_c ?_ | refine Both.mk ?_ ?_ | refine NilS.ts ?_ | refine LetE.now ?_ | refine AtD.now ?_ | refine LetC.now ?_ | refine g_some ?_ | refine g_yk ?_ | refine g_nk ?_ | refine g_y ?_ | refine g_f ?_ | refine AtA.mk' ?_ | refine Spl.pd (fun h => ?_) (fun h => ?_) | refine Spl.peq (fun h => ?_) (fun h => ?_) | refine Spl.pne (fun h => ?_) (fun h => ?_) | refine Spl.seq (fun h => ?_) (fun h => ?_) | refine Spl.sne (fun h => ?_) (fun h => ?_) | refine Spl.nt ?_ | refine Spl.mk (fun h => ?_) (fun h => ?_))))
      refine again (k + 1) ⟨by omega, fun j hj => ?_⟩ (by dsimp only; omega) (And.intro rfl (And.intro rfl (And.intro (it_eq (by omega)) trivial))) trivial rfl
      rcases Nat.lt_or_ge j k with hjk | hjk
      · exact k2 j hjk
      · obtain rfl : j = k := by omega
        rw [hu]; simp
    | true =>
      have hek' : encE (entAt (imS m) k) = [.bl true, .it .i64 (entAt (imS m) k).p, .st (entAt (imS m) k).n, .it .i64 (entAt (imS m) k).t] := by rw [encE, hu]
      rw [hek'] at hek
      (repeat' ((conv => whnf); first | (with_reducible first | refine Spl.tt ?_ | refine Spl.ff ?_) | ((with_reducible refine callE_id ?_); (refine CallE.con ⟨_, hek, ?_⟩)) | (with_reducible first | refine draw_auto ti_ok mixed (by decide +kernel) ?_ | refine g_i64 ?_ | refine g_u64 ?_ | refine g_u8 ?_ | refine g_iq ?_ | refine g_uq ?_ | refine g_rem ?_ | refine LetN.mk ?_ | refine g_hm ?_ | refine g_hb ?_ | refine g_lit ?_ | refine g_nm8 (fun x hx hu => ?_) | refine g_n8 (fun x hx hu => ?_) | refine g_b8 (fun x hx hu => ?_) | refine g_nm (fun x hx => ?_) | refine g_im (fun x hx => ?_) | refine g_n (fun x hx => ?_) | refine g_b (fun x hx => ?_) | refine g_and ?_ | refine g_c ?_ | refine Both.mk ?_ ?_ | refine NilS.ts ?_ | refine LetE.now ?_ | refine AtD.now ?_ | refine LetC.now ?_ | refine g_some ?_ | refine g_yk ?_ | refine g_nk ?_ | refine g_y ?_ | refine g_f ?_ | refine AtA.mk' ?_ | refine Spl.pd (fun h => ?_) (fun h => ?_) | refine Spl.peq (fun h => ?_) (fun h => ?_) | refine Spl.pne (fun h => ?_) (fun h => ?_) | refine Spl.seq (fun h => ?_) (fun h => ?_) | refine Spl.sne (fun h => ?_) (fun h => ?_) | refine Spl.nt ?_ | refine Spl.mk (fun h => ?_) (fun h => ?_))))
      · exact bl_tt (.inr ⟨k, hk, hu, by assumption⟩)
      · refine again (k + 1) ⟨by omega, fun j hj => ?_⟩ (by dsimp only; omega) (And.intro rfl (And.intro rfl (And.intro (it_eq (by omega)) trivial))) trivial rfl
        rcases Nat.lt_or_ge j k with hjk | hjk
        · exact k2 j hjk
        · obtain rfl : j = k := by omega
          exact fun hq => (by assumption : ¬ _) hq.2
  · (repeat' ((conv => whnf); first | (with_reducible first | refine Spl.tt ?_ | refine Spl.ff ?_) | (with_reducible first | refine draw_auto ti_ok mixed (by decide +kernel) ?_ | refine g_i64 ?_ | refine g_u64 ?_ | refine g_u8 ?_ | refine g_iq ?_ | refine g_uq ?_ | refine g_rem ?_ | refine LetN.mk ?_ | refine g_hm ?_ | refine g_hb ?_ | refine g_lit ?_ | refine g_nm8 (fun x hx hu => ?_) | refine g_n8 (fun x hx hu => ?_) | refine g_b8 (fun x hx hu => ?_) | refine g_nm (fun x hx => ?_) | refine g_im (fun x hx => ?_) | refine g_n (fun x hx => ?_) | refine g_b (fun x hx => ?_) | refine g_and ?_ | refine g_c ?_ | refine Both.mk ?_ ?_ | refine NilS.ts ?_ | refine LetE.now ?_ | refine AtD.now ?_ | refine LetC.now ?_ | refine g_some ?_ | refine g_yk ?_ | refine g_nk ?_ | refine g_y ?_ | refine g_f ?_ | refine AtA.mk' ?_ | refine Spl.pd (fun h => ?_) (fun h => ?_) | refine Spl.peq (fun h => ?_) (fun h => ?_) | refine Spl.pne (fun h => ?_) (fun h => ?_) | refine Spl.seq (fun h => ?_) (fun h => ?_) | refine Spl.sne (fun h => ?_) (fun h => ?_) | refine Spl.nt ?_ | refine Spl.mk (fun h => ?_) (fun h => ?_))))
    refine bl_of ?_
    rw [beq_iff_eq]
    refine ⟨fun h => .inl h, fun h => h.elim id fun ⟨j, hj, h1, h2⟩ => absurd ⟨h1, h2⟩ (k2 j (by omega))⟩
def superS : List UInt8 := [70, 76, 79, 84, 0, 0, 0, 0, 0, 0, 0, 0, 0, 0, 0, 0, 0, 0, 0, 0, 0, 0, 0, 0, 0, 0, 0, 0, 0, 0, 0, 0]
theorem refSuper_ok : FnC Tryz.prog 22 [] (.dg 32 (encS superS)) := by
  refine FnC.intro ti_ok Tryz.func22 rfl Tryz.ntmps22 Tryz.call22 rfl (Nat.le_of_ble_eq_true rfl) rfl ?_
  (repeat' ((conv => whnf); first | (with_reducible first | refine Spl.tt ?_ | refine Spl.ff ?_) | with_reducible refine AtA.mk' ?_ | (with_reducible first | refine draw_auto ti_ok mixed (by decide +kernel) ?_ | refine g_i64 ?_ | refine g_u64 ?_ | refine g_u8 ?_ | refine g_iq ?_ | refine g_uq ?_ | refine g_rem ?_ | refine LetN.mk ?_ | refine g_hm ?_ | refine g_hb ?_ | refine g_lit ?_ | refine g_nm8 (fun x hx hu => ?_) | refine g_n8 (fun x hx hu => ?_) | refine g_b8 (fun x hx hu => ?_) | refine g_nm (fun x hx => ?_) | refine g_im (fun x hx => ?_) | refine g_n (fun x hx => ?_) | refine g_b (fun x hx => ?_) | refine g_and ?_ | refine g_c ?_ | refine Both.mk ?_ ?_ | refine NilS.ts ?_ | refine LetE.now ?_ | refine AtD.now ?_ | refine LetC.now ?_ | refine g_some ?_ | refine g_yk ?_ | refine g_nk ?_ | refine g_y ?_ | refine g_f ?_ | refine AtA.mk' ?_ | refine Spl.pd (fun h => ?_) (fun h => ?_) | refine Spl.peq (fun h => ?_) (fun h => ?_) | refine Spl.pne (fun h => ?_) (fun h => ?_) | refine Spl.seq (fun h => ?_) (fun h => ?_) | refine Spl.sne (fun h => ?_) (fun h => ?_) | refine Spl.nt ?_ | refine Spl.mk (fun h => ?_) (fun h => ?_))))
  rfl
end Go.Proofs.YtenomegafkileaaGreatDoor

/- Is it a disk of files? Conditions: none. -/
namespace Go.Proofs.YtenomegafkileaaGreatDoor
open Go.Sy
set_option maxRecDepth 100000
set_option linter.all false
def mntP (m : List (List UInt8)) : Prop := m.length = 65 ∧ imS m 0 = superS ∧ inoB (imS m 1) ∧ (inoOf (imS m 1)).k = 2
instance (m : List (List UInt8)) : Decidable (mntP m) := by unfold mntP; infer_instance
theorem ldD_sec {ty : Ty} (ha : ty.kd.agg = true) (hz : ty.size = 32) {s : List UInt8} (hs : s.length = 32) : ldD ty (encS s) = .dg 32 (encS s) := by
  unfold ldD
  rw [ha, cond_true, hz, List.take_of_length_le (by rw [encS_len, hs]; exact Nat.le_refl _)]
theorem spl_id {b : Bool} {A B : Prop} (h : Spl b A B) : Spl b A B := h
end Go.Proofs.YtenomegafkileaaGreatDoor

/- A disk out of an image and writes. Conditions: none. -/
namespace Go.Proofs.YtenomegafkileaaGreatDoor
open Go.Sy
set_option maxRecDepth 100000
set_option linter.all false
def sec32 (g : Nat → UInt8) : List UInt8 := [g 0, g 1, g 2, g 3, g 4, g 5, g 6, g 7, g 8, g 9, g 10, g 11, g 12, g 13, g 14, g 15, g 16, g 17, g 18, g 19, g 20, g 21, g 22, g 23, g 24, g 25, g 26, g 27, g 28, g 29, g 30, g 31]
theorem is32 {s : List UInt8} (h : s.length = 32) : ∃ g, s = sec32 g := by
  refine ⟨fun i => s.getD i 0, ?_⟩
  refine List.ext_getElem (by rw [h]; rfl) fun i h1 h2 => ?_
  have h3 : sec32 (fun i => s.getD i 0) = (List.range 32).map (fun i => s.getD i 0) := rfl
  simp only [h3, List.getElem_map, List.getElem_range]
  rw [List.getD_eq_getElem?_getD, List.getElem?_eq_getElem h1]; rfl
theorem nilBad {K : AV → Prop} (h : K (.d (.it .i64 0))) : LookN Tryz.prog 3 3 K := ⟨.i64, 0, ⟨.i64, Tryz.underlying3⟩, fun w => Tryz.zeroValue3 w, h⟩
def encEv (w : Wr) : List D := [.it .i64 1] ++ encW w ++ [.fs 2 []]
def okW (n : Nat) (w : Wr) : Bool := decide (0 ≤ w.a ∧ w.a < n)
/-- The writes as they wait, of a disk of so many sectors. -/
def wts (n : Nat) (ws : List Wr) : List Wr := (ws.filter (okW n)).map fun w => { w with e := 0 }
def dskOf (m : List (List UInt8)) (ws : List Wr) : Option Dk := if 1 ≤ m.length ∧ m.length ≤ 65 then some ⟨ws.length, m, wts m.length ws, (wts m.length ws).map encEv, 0⟩ else none
def WsOK (ws : List Wr) : Prop := ∀ w ∈ ws, w.s.length = 32
def wtsI (m : List (List UInt8)) (ws : List Wr) (i : Nat) : List Wr := wts m.length (ws.take i)
theorem wtsI_len (m : List (List UInt8)) (ws : List Wr) (i : Nat) : (wtsI m ws i).length ≤ ws.length := by
  unfold wtsI wts
  rw [List.length_map]
  exact Nat.le_trans (List.length_filter_le _ _) (by rw [List.length_take]; omega)
theorem wtsI_step (m : List (List UInt8)) {ws : List Wr} {i : Nat} {x : Wr} (hx : ws[i]? = some x) : wtsI m ws (i + 1) = if 0 ≤ x.a ∧ x.a < m.length then wtsI m ws i ++ [{ x with e := 0 }] else wtsI m ws i := by
  unfold wtsI wts
  rw [take_snoc hx, List.filter_append, List.map_append]
  by_cases h : 0 ≤ x.a ∧ x.a < m.length
  · rw [if_pos h]
    have : okW m.length x = true := decide_eq_true h
    simp [this]
  · rw [if_neg h]
    have : okW m.length x = false := decide_eq_false h
    simp [this]
def dA (m : List (List UInt8)) (ws : List Wr) (i : Nat) : S := ⟨[(0, .d (encM m)), (1, .d (.fs 36 (ws.map encW))), (5, .ptr 7 0), (7, .d (.it .i64 (i : Nat)))],
  [(7, .cells 6 [.d (.ot (.map none)), .d (.it .i64 (i : Nat)), .d (.fs 32 (m.map encS)), .ts 36 ((wtsI m ws i).map encW) 8, .ts 38 ((wtsI m ws i).map encEv) 9, .d (.it .i64 0)]), (8, .tail 47 true), (9, .tail 84 true)], 10⟩
set_option maxHeartbeats 8000000 in
theorem disk_ok (m : List (List UInt8)) (hm : ImOK m) (ws : List Wr) (hw : WsOK ws) (hml : m.length ≤ 1000) (hwl : ws.length ≤ 1000) : FnC Tryz.prog 5 [.d (encM m), .d (.fs 36 (ws.map encW))] (.d (encD (dskOf m ws))) := by
  have hml' : (m.map encS).length = m.length := List.length_map ..
  have hwl' : (ws.map encW).length = ws.length := List.length_map ..
  by_cases h : 1 ≤ m.length ∧ m.length ≤ 65
  · rw [show dskOf m ws = some _ from if_pos h]
    have hne : (m.map encS).isEmpty = false := by
      cases m with
      | nil => simp at h
      | cons => rfl
    refine FnC.introW ti_ok Tryz.func5 rfl Tryz.ntmps5 Tryz.call5 rfl (Nat.le_of_ble_eq_true rfl) rfl ?_
    (repeat' ((conv => whnf); first | (with_reducible first | refine Spl.tt ?_ | refine Spl.ff ?_) | ((with_reducible refine callE_id ?_); refine CallE.inl ?_) | with_reducible refine CallI.inl ti_ok i14 rfl ?_ | with_reducible refine CallI.inl ti_ok i23 rfl ?_ | with_reducible refine CallI.inl ti_ok i24 rfl ?_ | with_reducible refine Spl.no hne ?_ | (with_reducible first | refine draw_auto ti_ok mixed (by decide +kernel) ?_ | refine g_i64 ?_ | refine g_u64 ?_ | refine g_u8 ?_ | refine g_iq ?_ | refine g_uq ?_ | refine g_rem ?_ | refine LetN.mk ?_ | refine g_hm ?_ | refine g_hb ?_ | refine g_lit ?_ | refine g_nm8 (fun x hx hu => ?_) | refine g_n8 (fun x hx hu => ?_) | refine g_b8 (fun x hx hu => ?_) | refine g_nm (fun x hx => ?_) | refine g_im (fun x hx => ?_) | refine g_n (fun x hx => ?_) | refine g_b (fun x hx => ?_) | refine g_and ?_ | refine g_c ?_ | refine Both.mk ?_ ?_ | refine NilS.ts ?_ | refine LetE.now ?_ | refine AtD.now ?_ | refine LetC.now ?_ | refine g_some ?_ | refine g_yk ?_ | refine g_nk ?_ | refine g_y ?_ | refine g_f ?_ | refine AtA.mk' ?_ | refine Spl.pd (fun h => ?_) (fun h => ?_) | refine Spl.peq (fun h => ?_) (fun h => ?_) | refine Spl.pne (fun h => ?_) (fun h => ?_) | refine Spl.seq (fun h => ?_) (fun h => ?_) | refine Spl.sne (fun h => ?_) (fun h => ?_) | refine Spl.nt ?_ | refine Spl.mk (fun h => ?_) (fun h => ?_))))
    refine loop_ruleW ti_ok (fun i : Nat => i ≤ ws.length) (dA m ws) (fun i => ws.length - i) 0 (Nat.zero_le _)
      ?_ ?_
    · refine Wk.trans (Wk.nlTs 7 3 6 36 47 (by with_unfolding_all exact rfl) (by with_unfolding_all exact rfl)) ?_
      refine Wk.trans (Wk.nlTs 7 4 6 38 84 (by with_unfolding_all exact rfl) (by with_unfolding_all exact rfl)) ?_
      exact Wk.vwL (And.intro (Vw.eq rfl) (And.intro (Vw.eq rfl) (And.intro (Vw.eq rfl) (And.intro (Vw.eq rfl) trivial))))
          (And.intro (VwO.cells _ _ _ (.cons (Vw.eq rfl) rfl (.cons (Vw.eq rfl) rfl (.cons (Vw.ts' rfl) rfl (.cons (Vw.eq rfl) rfl (.cons (Vw.eq rfl) rfl (.cons (Vw.eq rfl) rfl .nil))))))) (And.intro (VwO.same _) (And.intro (VwO.same _) trivial))) rfl
    intro i hi
    rcases Nat.lt_or_ge i ws.length with hil | hil
    · obtain ⟨x, hx⟩ := lt_get hil
      have hxs := hw x (List.mem_of_getElem? hx)
      have hpos : m.length ≠ 0 := by omega
      have hwi : ((wtsI m ws i).map encW).length ≤ 1000 := by
        rw [List.length_map]
        exact Nat.le_trans (wtsI_len m ws i) hwl
      have hwe : ((wtsI m ws i).map encEv).length ≤ 1000 := by
        rw [List.length_map]
        exact Nat.le_trans (wtsI_len m ws i) hwl
      have hwj : (wtsI m ws i).length ≤ 1000 := Nat.le_trans (wtsI_len m ws i) hwl
      have hstep := wtsI_step m hx
      obtain ⟨xa, xs, xk, xi, xe⟩ := x
      obtain ⟨g, rfl⟩ := is32 hxs
      (repeat' ((conv => whnf); first | (with_reducible first | refine Spl.tt ?_ | refine Spl.ff ?_) | with_reducible refine at_hm hx ?_ | with_reducible refine nilBad ?_ | with_reducible refine AtA.mk' ?_ | ((with_reducible refine callE_id ?_); refine CallE.inl ?_) | ((with_reducible refine callI_id ?_); first | with_reducible refine CallI.inl ti_ok i15 rfl ?_ | with_reducible refine CallI.inl ti_ok i25 rfl ?_ | with_reducible refine CallI.inl ti_ok i27 rfl ?_ | with_reducible refine CallI.inl ti_ok i26 rfl ?_ | with_reducible refine CallI.inl ti_ok i28 rfl ?_) | ((with_reducible refine drawS_id ?_); first | refine draw_newB ti_ok mixed (by decide +kernel) ?_ | refine draw_hoist ti_ok mixed 0 (by decide +kernel) ?_) | (with_reducible first | refine draw_auto ti_ok mixed (by decide +kernel) ?_ | refine g_i64 ?_ | refine g_u64 ?_ | refine g_u8 ?_ | refine g_iq ?_ | refine g_uq ?_ | refine g_rem ?_ | refine LetN.mk ?_ | refine g_hm ?_ | refine g_hb ?_ | refine g_lit ?_ | refine g_nm8 (fun x hx hu => ?_) | refine g_n8 (fun x hx hu => ?_) | refine g_b8 (fun x hx hu => ?_) | refine g_nm (fun x hx => ?_) | refine g_im (fun x hx => ?_) | refine g_n (fun x hx => ?_) | refine g_b (fun x hx => ?_) | refine g_and ?_ | refine g_c ?_ | refine Both.mk ?_ ?_ | refine NilS.ts ?_ | refine LetE.now ?_ | refine AtD.now ?_ | refine LetC.now ?_ | refine g_some ?_ | refine g_yk ?_ | refine g_nk ?_ | refine g_y ?_ | refine g_f ?_ | refine AtA.mk' ?_ | refine Spl.pd (fun h => ?_) (fun h => ?_) | refine Spl.peq (fun h => ?_) (fun h => ?_) | refine Spl.pne (fun h => ?_) (fun h => ?_) | refine Spl.seq (fun h => ?_) (fun h => ?_) | refine Spl.sne (fun h => ?_) (fun h => ?_) | refine Spl.nt ?_ | refine Spl.mk (fun h => ?_) (fun h => ?_))))
      all_goals refine ⟨i + 1, by omega, by dsimp only; omega, Wk.vwL (And.intro (Vw.eq rfl) (And.intro (Vw.eq rfl) (And.intro (Vw.eq rfl) (And.intro (Vw.eq (it_eq (by omega))) trivial)))) (And.intro (VwO.cells _ _ _ (.cons (Vw.eq rfl) rfl (.cons (Vw.eq (it_eq (by omega))) rfl (.cons (Vw.eq rfl) rfl (.cons (Vw.eq (ts_eq ?_)) rfl (.cons (Vw.eq (ts_eq ?_)) rfl (.cons (Vw.eq rfl) rfl .nil))))))) (And.intro (VwO.same _) (And.intro (VwO.same _) trivial))) rfl⟩
      all_goals first
        | (rw [hstep, if_pos (by dsimp only at *; omega), List.map_append]; rfl)
        | (rw [hstep, if_neg (by dsimp only at *; omega)])
    · have hli : i = ws.length := by omega
      have hlast : wtsI m ws i = wts m.length ws := by unfold wtsI; rw [hli, List.take_length]
      (repeat' ((conv => whnf); first | (with_reducible first | refine Spl.tt ?_ | refine Spl.ff ?_) | (with_reducible first | refine draw_auto ti_ok mixed (by decide +kernel) ?_ | refine g_i64 ?_ | refine g_u64 ?_ | refine g_u8 ?_ | refine g_iq ?_ | refine g_uq ?_ | refine g_rem ?_ | refine LetN.mk ?_ | refine g_hm ?_ | refine g_hb ?_ | refine g_lit ?_ | refine g_nm8 (fun x hx hu => ?_) | refine g_n8 (fun x hx hu => ?_) | refine g_b8 (fun x hx hu => ?_) | refine g_nm (fun x hx => ?_) | refine g_im (fun x hx => ?_) | refine g_n (fun x hx => ?_) | refine g_b (fun x hx => ?_) | refine g_and ?_ | refine g_c ?_ | refine Both.mk ?_ ?_ | refine NilS.ts ?_ | refine LetE.now ?_ | refine AtD.now ?_ | refine LetC.now ?_ | refine g_some ?_ | refine g_yk ?_ | refine g_nk ?_ | refine g_y ?_ | refine g_f ?_ | refine AtA.mk' ?_ | refine Spl.pd (fun h => ?_) (fun h => ?_) | refine Spl.peq (fun h => ?_) (fun h => ?_) | refine Spl.pne (fun h => ?_) (fun h => ?_) | refine Spl.seq (fun h => ?_) (fun h => ?_) | refine Spl.sne (fun h => ?_) (fun h => ?_) | refine Spl.nt ?_ | refine Spl.mk (fun h => ?_) (fun h => ?_))))
      refine ⟨⟨[(4, .ptr 7 0)], [(7, .cells 6 ((encDk ⟨ws.length, m, wts m.length ws, (wts m.length ws).map encEv, 0⟩).map AV.d))], 10⟩, Wk.vwL (And.intro (Vw.eq rfl) trivial) (And.intro (VwO.cells _ _ _ (.cons (Vw.eq rfl) rfl (.cons (Vw.eq (it_eq (by dsimp only; omega))) rfl (.cons (Vw.eq rfl) rfl (.cons (Vw.ts' (by rw [hlast])) rfl (.cons (Vw.ts' (by rw [hlast])) rfl (.cons (Vw.eq rfl) rfl .nil))))))) trivial) rfl, ?_⟩
      exact ⟨_, ⟨by decide, rfl⟩, rfl⟩
  · rw [show dskOf m ws = none from if_neg h]
    refine FnC.intro ti_ok Tryz.func5 rfl Tryz.ntmps5 Tryz.call5 rfl (Nat.le_of_ble_eq_true rfl) rfl ?_
    (repeat' ((conv => whnf); first | (with_reducible first | refine Spl.tt ?_ | refine Spl.ff ?_) | ((with_reducible refine callE_id ?_); refine CallE.inl ?_) | with_reducible refine CallI.inl ti_ok i14 rfl ?_ | with_reducible refine CallI.inl ti_ok i23 rfl ?_ | (with_reducible first | refine draw_auto ti_ok mixed (by decide +kernel) ?_ | refine g_i64 ?_ | refine g_u64 ?_ | refine g_u8 ?_ | refine g_iq ?_ | refine g_uq ?_ | refine g_rem ?_ | refine LetN.mk ?_ | refine g_hm ?_ | refine g_hb ?_ | refine g_lit ?_ | refine g_nm8 (fun x hx hu => ?_) | refine g_n8 (fun x hx hu => ?_) | refine g_b8 (fun x hx hu => ?_) | refine g_nm (fun x hx => ?_) | refine g_im (fun x hx => ?_) | refine g_n (fun x hx => ?_) | refine g_b (fun x hx => ?_) | refine g_and ?_ | refine g_c ?_ | refine Both.mk ?_ ?_ | refine NilS.ts ?_ | refine LetE.now ?_ | refine AtD.now ?_ | refine LetC.now ?_ | refine g_some ?_ | refine g_yk ?_ | refine g_nk ?_ | refine g_y ?_ | refine g_f ?_ | refine AtA.mk' ?_ | refine Spl.pd (fun h => ?_) (fun h => ?_) | refine Spl.peq (fun h => ?_) (fun h => ?_) | refine Spl.pne (fun h => ?_) (fun h => ?_) | refine Spl.seq (fun h => ?_) (fun h => ?_) | refine Spl.sne (fun h => ?_) (fun h => ?_) | refine Spl.nt ?_ | refine Spl.mk (fun h => ?_) (fun h => ?_))))
    all_goals first | (exfalso; omega) | skip
    all_goals refine loop_rule ti_ok (fun i : Nat => i ≤ ws.length) (fun i : Nat => ⟨[(0, .d (encM m)), (1, .d (.fs 36 (ws.map encW))), (5, .d (.ot (.pointer none))), (7, .d (.it .i64 (i : Nat)))], [], 2⟩) (fun i => ws.length - i) 0 (Nat.zero_le _) ⟨And.intro rfl (And.intro rfl (And.intro rfl (And.intro rfl trivial))), trivial, rfl⟩ ?_
    all_goals (
      intro i hi
      rcases Nat.lt_or_ge i ws.length with hil | hil
      · obtain ⟨x, hx⟩ := lt_get hil
        have hxs := hw x (List.mem_of_getElem? hx)
        (repeat' ((conv => whnf); first | (with_reducible first | refine Spl.tt ?_ | refine Spl.ff ?_) | with_reducible refine at_hm hx ?_ | ((with_reducible refine callE_id ?_); refine CallE.inl ?_) | ((with_reducible refine callI_id ?_); first | with_reducible refine CallI.inl ti_ok i15 rfl ?_ | with_reducible refine CallI.inl ti_ok i25 rfl ?_) | (with_reducible first | refine draw_auto ti_ok mixed (by decide +kernel) ?_ | refine g_i64 ?_ | refine g_u64 ?_ | refine g_u8 ?_ | refine g_iq ?_ | refine g_uq ?_ | refine g_rem ?_ | refine LetN.mk ?_ | refine g_hm ?_ | refine g_hb ?_ | refine g_lit ?_ | refine g_nm8 (fun x hx hu => ?_) | refine g_n8 (fun x hx hu => ?_) | refine g_b8 (fun x hx hu => ?_) | refine g_nm (fun x hx => ?_) | refine g_im (fun x hx => ?_) | refine g_n (fun x hx => ?_) | refine g_b (fun x hx => ?_) | refine g_and ?_ | refine g_c ?_ | refine Both.mk ?_ ?_ | refine NilS.ts ?_ | refine LetE.now ?_ | refine AtD.now ?_ | refine LetC.now ?_ | refine g_some ?_ | refine g_yk ?_ | refine g_nk ?_ | refine g_y ?_ | refine g_f ?_ | refine AtA.mk' ?_ | refine Spl.pd (fun h => ?_) (fun h => ?_) | refine Spl.peq (fun h => ?_) (fun h => ?_) | refine Spl.pne (fun h => ?_) (fun h => ?_) | refine Spl.seq (fun h => ?_) (fun h => ?_) | refine Spl.sne (fun h => ?_) (fun h => ?_) | refine Spl.nt ?_ | refine Spl.mk (fun h => ?_) (fun h => ?_))))
        refine again (i + 1) (by omega) (by dsimp only; omega) (And.intro rfl (And.intro rfl (And.intro rfl (And.intro (it_eq (by omega)) trivial)))) trivial rfl
      · (repeat' ((conv => whnf); first | (with_reducible first | refine Spl.tt ?_ | refine Spl.ff ?_) | (with_reducible first | refine draw_auto ti_ok mixed (by decide +kernel) ?_ | refine g_i64 ?_ | refine g_u64 ?_ | refine g_u8 ?_ | refine g_iq ?_ | refine g_uq ?_ | refine g_rem ?_ | refine LetN.mk ?_ | refine g_hm ?_ | refine g_hb ?_ | refine g_lit ?_ | refine g_nm8 (fun x hx hu => ?_) | refine g_n8 (fun x hx hu => ?_) | refine g_b8 (fun x hx hu => ?_) | refine g_nm (fun x hx => ?_) | refine g_im (fun x hx => ?_) | refine g_n (fun x hx => ?_) | refine g_b (fun x hx => ?_) | refine g_and ?_ | refine g_c ?_ | refine Both.mk ?_ ?_ | refine NilS.ts ?_ | refine LetE.now ?_ | refine AtD.now ?_ | refine LetC.now ?_ | refine g_some ?_ | refine g_yk ?_ | refine g_nk ?_ | refine g_y ?_ | refine g_f ?_ | refine AtA.mk' ?_ | refine Spl.pd (fun h => ?_) (fun h => ?_) | refine Spl.peq (fun h => ?_) (fun h => ?_) | refine Spl.pne (fun h => ?_) (fun h => ?_) | refine Spl.seq (fun h => ?_) (fun h => ?_) | refine Spl.sne (fun h => ?_) (fun h => ?_) | refine Spl.nt ?_ | refine Spl.mk (fun h => ?_) (fun h => ?_))))
        rfl)
end Go.Proofs.YtenomegafkileaaGreatDoor

/- Is it mounted? An image with writes over it. Conditions: none. -/
namespace Go.Proofs.YtenomegafkileaaGreatDoor
open Go.Sy
set_option maxRecDepth 100000
set_option linter.all false
/-- All sectors of a disk, as they are read. -/
def imgD (d : Option Dk) : List (List UInt8) := match d with
  | none => []
  | some dk => (List.range dk.safe.length).map fun k : Nat => rdS d (k : Nat)
theorem vx_eq {sz n i a b : Nat} (h : a = b) : AV.vx sz n i a = AV.vx sz n i b := by rw [h]
theorem vec_eq {t sz : Nat} {a b : List (List D)} {f : Bool} (h : a = b) : Ob.vec t sz a f = Ob.vec t sz b f := by rw [h]
theorem set_enc {L : List (List UInt8)} {s : List UInt8} {j k : Nat} (hj : j = k) (hk : k < L.length) : (L.map encS).take j ++ [encS s] ++ (L.map encS).drop (j + 1) = (L.set k s).map encS := by
  subst hj
  rw [List.set_eq_take_append_cons_drop, if_pos hk, List.map_append, List.map_cons, List.map_take, List.map_drop, List.append_assoc]; rfl
/-- Writes over an image. -/
def putW (m : List (List UInt8)) (w : Wr) : List (List UInt8) := if 0 ≤ w.a ∧ w.a < m.length then m.set w.a.toNat w.s else m
def putWs (m : List (List UInt8)) (ws : List Wr) : List (List UInt8) := ws.foldl putW m
def withF (m : List (List UInt8)) (ws : List Wr) : List (List UInt8) := if 1 ≤ m.length ∧ m.length ≤ 65 then putWs m ws else []
theorem putW_len (m : List (List UInt8)) (w : Wr) : (putW m w).length = m.length := by unfold putW; split <;> simp
theorem putWs_len (m : List (List UInt8)) : ∀ ws : List Wr, (putWs m ws).length = m.length := by
  intro ws
  induction ws generalizing m with
  | nil => rfl
  | cons w t ih =>
    show (putWs (putW m w) t).length = _
    rw [ih, putW_len]
theorem putWs_snoc (m : List (List UInt8)) {ws : List Wr} {i : Nat} {x : Wr} (hx : ws[i]? = some x) : putWs m (ws.take (i + 1)) = putW (putWs m (ws.take i)) x := by
  unfold putWs
  rw [take_snoc hx, List.foldl_append]; rfl
def wiA (m : List (List UInt8)) (ws : List Wr) (i : Nat) : S := ⟨[(0, .d (encM m)), (1, .d (.fs 36 (ws.map encW))), (5, .vx 32 1 0 m.length), (6, .d (.it .i64 (i : Nat)))], [(1, .vec 43 32 ((putWs m (ws.take i)).map encS) false)], 2⟩
set_option maxHeartbeats 4000000 in
theorem with_ok (m : List (List UInt8)) (hm : ImOK m) (ws : List Wr) (hw : WsOK ws) (hml : m.length ≤ 1000) (hwl : ws.length ≤ 1000) : FnC Tryz.prog 6 [.d (encM m), .d (.fs 36 (ws.map encW))] (.d (encM (withF m ws))) := by
  have hml' : (m.map encS).length = m.length := List.length_map ..
  have hwl' : (ws.map encW).length = ws.length := List.length_map ..
  refine FnC.intro ti_ok Tryz.func6 rfl Tryz.ntmps6 Tryz.call6 rfl (Nat.le_of_ble_eq_true rfl) rfl ?_
  by_cases h : 1 ≤ m.length ∧ m.length ≤ 65
  · rw [show withF m ws = putWs m ws from if_pos h]
    (repeat' ((conv => whnf); first | (with_reducible first | refine Spl.tt ?_ | refine Spl.ff ?_) | ((with_reducible refine nils_id ?_); first | refine NilS.vec ⟨rfl, ?_⟩ | refine NilS.ts ?_) | (with_reducible first | refine draw_auto ti_ok mixed (by decide +kernel) ?_ | refine g_i64 ?_ | refine g_u64 ?_ | refine g_u8 ?_ | refine g_iq ?_ | refine g_uq ?_ | refine g_rem ?_ | refine LetN.mk ?_ | refine g_hm ?_ | refine g_hb ?_ | refine g_lit ?_ | refine g_nm8 (fun x hx hu => ?_) | refine g_n8 (fun x hx hu => ?_) | refine g_b8 (fun x hx hu => ?_) | refine g_nm (fun x hx => ?_) | refine g_im (fun x hx => ?_) | refine g_n (fun x hx => ?_) | refine g_b (fun x hx => ?_) | refine g_and ?_ | refine g_c ?_ | refine Both.mk ?_ ?_ | refine NilS.ts ?_ | refine LetE.now ?_ | refine AtD.now ?_ | refine LetC.now ?_ | refine g_some ?_ | refine g_yk ?_ | refine g_nk ?_ | refine g_y ?_ | refine g_f ?_ | refine AtA.mk' ?_ | refine Spl.pd (fun h => ?_) (fun h => ?_) | refine Spl.peq (fun h => ?_) (fun h => ?_) | refine Spl.pne (fun h => ?_) (fun h => ?_) | refine Spl.seq (fun h => ?_) (fun h => ?_) | refine Spl.sne (fun h => ?_) (fun h => ?_) | refine Spl.nt ?_ | refine Spl.mk (fun h => ?_) (fun h => ?_))))
    refine loop_rule ti_ok (fun i : Nat => i ≤ ws.length) (wiA m ws) (fun i => ws.length - i) 0 (Nat.zero_le _) ⟨And.intro rfl (And.intro rfl (And.intro (vx_eq hml') (And.intro rfl trivial))), And.intro rfl trivial, rfl⟩ ?_
    intro i hi
    have hpl := putWs_len m (ws.take i)
    have hpl' : ((putWs m (ws.take i)).map encS).length = m.length := by rw [List.length_map, hpl]
    rcases Nat.lt_or_ge i ws.length with hil | hil
    · obtain ⟨x, hx⟩ := lt_get hil
      have hxs := hw x (List.mem_of_getElem? hx)
      have hstep := putWs_snoc m hx
      obtain ⟨xa, xs, xk, xi, xe⟩ := x
      obtain ⟨g, rfl⟩ := is32 hxs
      (repeat' ((conv => whnf); first | (with_reducible first | refine Spl.tt ?_ | refine Spl.ff ?_) | with_reducible refine at_hm hx ?_ | (with_reducible first | refine draw_auto ti_ok mixed (by decide +kernel) ?_ | refine g_i64 ?_ | refine g_u64 ?_ | refine g_u8 ?_ | refine g_iq ?_ | refine g_uq ?_ | refine g_rem ?_ | refine LetN.mk ?_ | refine g_hm ?_ | refine g_hb ?_ | refine g_lit ?_ | refine g_nm8 (fun x hx hu => ?_) | refine g_n8 (fun x hx hu => ?_) | refine g_b8 (fun x hx hu => ?_) | refine g_nm (fun x hx => ?_) | refine g_im (fun x hx => ?_) | refine g_n (fun x hx => ?_) | refine g_b (fun x hx => ?_) | refine g_and ?_ | refine g_c ?_ | refine Both.mk ?_ ?_ | refine NilS.ts ?_ | refine LetE.now ?_ | refine AtD.now ?_ | refine LetC.now ?_ | refine g_some ?_ | refine g_yk ?_ | refine g_nk ?_ | refine g_y ?_ | refine g_f ?_ | refine AtA.mk' ?_ | refine Spl.pd (fun h => ?_) (fun h => ?_) | refine Spl.peq (fun h => ?_) (fun h => ?_) | refine Spl.pne (fun h => ?_) (fun h => ?_) | refine Spl.seq (fun h => ?_) (fun h => ?_) | refine Spl.sne (fun h => ?_) (fun h => ?_) | refine Spl.nt ?_ | refine Spl.mk (fun h => ?_) (fun h => ?_))))
      all_goals (refine again (i + 1) (by omega) (by dsimp only; omega) (And.intro rfl (And.intro rfl (And.intro rfl (And.intro (it_eq (by omega)) trivial)))) (And.intro (vec_eq ?_) trivial) rfl)
      all_goals first
        | (rw [hstep]; unfold putW; rw [if_neg (by dsimp only at *; omega)])
        | (rw [hstep]; unfold putW; rw [if_pos (by dsimp only at *; omega)]; refine set_enc (s := sec32 g) (k := xa.toNat) (Nat.zero_add _) ?_; rw [hpl]; dsimp only at *; omega)
    · have hie : i = ws.length := by omega
      have hlast : putWs m (ws.take i) = putWs m ws := by rw [hie, List.take_length]
      rw [hlast] at hpl'
      unfold wiA
      rw [hlast]
      (repeat' ((conv => whnf); first | (with_reducible first | refine Spl.tt ?_ | refine Spl.ff ?_) | (with_reducible first | refine draw_auto ti_ok mixed (by decide +kernel) ?_ | refine g_i64 ?_ | refine g_u64 ?_ | refine g_u8 ?_ | refine g_iq ?_ | refine g_uq ?_ | refine g_rem ?_ | refine LetN.mk ?_ | refine g_hm ?_ | refine g_hb ?_ | refine g_lit ?_ | refine g_nm8 (fun x hx hu => ?_) | refine g_n8 (fun x hx hu => ?_) | refine g_b8 (fun x hx hu => ?_) | refine g_nm (fun x hx => ?_) | refine g_im (fun x hx => ?_) | refine g_n (fun x hx => ?_) | refine g_b (fun x hx => ?_) | refine g_and ?_ | refine g_c ?_ | refine Both.mk ?_ ?_ | refine NilS.ts ?_ | refine LetE.now ?_ | refine AtD.now ?_ | refine LetC.now ?_ | refine g_some ?_ | refine g_yk ?_ | refine g_nk ?_ | refine g_y ?_ | refine g_f ?_ | refine AtA.mk' ?_ | refine Spl.pd (fun h => ?_) (fun h => ?_) | refine Spl.peq (fun h => ?_) (fun h => ?_) | refine Spl.pne (fun h => ?_) (fun h => ?_) | refine Spl.seq (fun h => ?_) (fun h => ?_) | refine Spl.sne (fun h => ?_) (fun h => ?_) | refine Spl.nt ?_ | refine Spl.mk (fun h => ?_) (fun h => ?_))))
      refine fs_eq ?_
      rw [List.drop_zero, List.take_of_length_le (by rw [hpl']; exact Nat.le_refl _)]
  · rw [show withF m ws = [] from if_neg h]
    (repeat' ((conv => whnf); first | (with_reducible first | refine Spl.tt ?_ | refine Spl.ff ?_) | (with_reducible first | refine draw_auto ti_ok mixed (by decide +kernel) ?_ | refine g_i64 ?_ | refine g_u64 ?_ | refine g_u8 ?_ | refine g_iq ?_ | refine g_uq ?_ | refine g_rem ?_ | refine LetN.mk ?_ | refine g_hm ?_ | refine g_hb ?_ | refine g_lit ?_ | refine g_nm8 (fun x hx hu => ?_) | refine g_n8 (fun x hx hu => ?_) | refine g_b8 (fun x hx hu => ?_) | refine g_nm (fun x hx => ?_) | refine g_im (fun x hx => ?_) | refine g_n (fun x hx => ?_) | refine g_b (fun x hx => ?_) | refine g_and ?_ | refine g_c ?_ | refine Both.mk ?_ ?_ | refine NilS.ts ?_ | refine LetE.now ?_ | refine AtD.now ?_ | refine LetC.now ?_ | refine g_some ?_ | refine g_yk ?_ | refine g_nk ?_ | refine g_y ?_ | refine g_f ?_ | refine AtA.mk' ?_ | refine Spl.pd (fun h => ?_) (fun h => ?_) | refine Spl.peq (fun h => ?_) (fun h => ?_) | refine Spl.pne (fun h => ?_) (fun h => ?_) | refine Spl.seq (fun h => ?_) (fun h => ?_) | refine Spl.sne (fun h => ?_) (fun h => ?_) | refine Spl.nt ?_ | refine Spl.mk (fun h => ?_) (fun h => ?_))))
    all_goals first | rfl | (exfalso; omega)
end Go.Proofs.YtenomegafkileaaGreatDoor

/- The entry of a name in a folder; the inode at a path. Conditions: none. -/
namespace Go.Proofs.YtenomegafkileaaGreatDoor
open Go.Sy
set_option maxRecDepth 100000
set_option linter.all false
/-- Does a name stand by entry k? -/
def stdP (f : Int → List UInt8) (p : Int) (k : Nat) : Prop := (entAt f k).u = true ∧ (entAt f k).p = p ∧ (inoAt f (entAt f k).t).k ≠ 0
instance (f : Int → List UInt8) (p : Int) (k : Nat) : Decidable (stdP f p k) := by unfold stdP; infer_instance
def fndP (f : Int → List UInt8) (p : Int) (s : List UInt8) (k : Nat) : Prop := stdP f p k ∧ (entAt f k).n = s
instance (f : Int → List UInt8) (p : Int) (s : List UInt8) (k : Nat) : Decidable (fndP f p s k) := by unfold fndP; infer_instance
def fndK (f : Int → List UInt8) (p : Int) (s : List UInt8) : Option Nat := (List.range 24).find? fun k => decide (fndP f p s k)
end Go.Proofs.YtenomegafkileaaGreatDoor

/- All names in a folder. Conditions: none. -/
namespace Go.Proofs.YtenomegafkileaaGreatDoor
open Go.Sy
set_option maxRecDepth 100000
set_option linter.all false
def sortS (l : List (List UInt8)) : List (List UInt8) := l.mergeSort fun x y => decide (x ≤ y)
/-- The names that stand in a folder by the first k entries. -/
def nmsK (f : Int → List UInt8) (p : Int) (k : Nat) : List (List UInt8) := ((List.range k).filter fun j => decide (stdP f p j)).map fun j : Nat => (entAt f (j : Nat)).n
def nms (f : Int → List UInt8) (p : Int) : List (List UInt8) := Lib.compact (sortS (nmsK f p 24))
theorem letE_id {e : List (List D)} {K : List (List D) → Prop} (h : LetE e K) : LetE e K := h
end Go.Proofs.YtenomegafkileaaGreatDoor

/- What is at a path. Conditions: none. -/
namespace Go.Proofs.YtenomegafkileaaGreatDoor
open Go.Sy
set_option maxRecDepth 100000
set_option linter.all false
def stepV (f : Int → List UInt8) (n : Int) (s : List UInt8) : Int × Int := if (inoAt f n).k = 2 then (match fndK f n s with | none => (0, 4) | some k => ((entAt f (k : Nat)).t, 0)) else (0, 6)
def lkp (f : Int → List UInt8) : List (List UInt8) → Int → Int × Int
  | [], n => (n, 0)
  | s :: t, n => if (stepV f n s).2 = 0 then lkp f t (stepV f n s).1 else (0, (stepV f n s).2)
def lookP (f : Int → List UInt8) (p : List UInt8) : Int × Int := if (splitP p).2 = 0 then lkp f (splitP p).1 0 else (0, (splitP p).2)
end Go.Proofs.YtenomegafkileaaGreatDoor

/- A disk and an image with writes over it read alike. Conditions: none. -/
namespace Go.Proofs.YtenomegafkileaaGreatDoor
open Go.Sy
set_option maxRecDepth 100000
set_option linter.all false
theorem lastAt_snoc (n : Int) (l : List Wr) (x : Wr) : lastAt n (l ++ [x]) = if x.a = n then some x.s else lastAt n l := by
  unfold lastAt
  rw [List.reverse_append]
  simp only [List.reverse_cons, List.reverse_nil, List.nil_append, List.singleton_append, List.find?_cons]
  by_cases h : x.a = n
  · simp [h]
  · simp [h]
theorem read_eq (m : List (List UInt8)) : ∀ (k : Nat) (ws : List Wr), ws.length = k → ∀ n : Int, 0 ≤ n → n < m.length →
    (match lastAt n (wts m.length ws) with | some s => s | none => m.getD n.toNat zeroS) = imS (putWs m ws) n := by
  intro k
  induction k with
  | zero =>
    intro ws hk n h0 h1
    obtain rfl := List.length_eq_zero_iff.1 hk
    rfl
  | succ k ih =>
    intro ws hk n h0 h1
    obtain ⟨t, x, rfl⟩ : ∃ t x, ws = t ++ [x] := ⟨ws.dropLast, ws.getLast (by intro h; rw [h] at hk; cases hk), (List.dropLast_concat_getLast _).symm⟩
    have ht : t.length = k := by simpa using hk
    have ih' := ih t ht n h0 h1
    have hp : putWs m (t ++ [x]) = putW (putWs m t) x := by unfold putWs; rw [List.foldl_append]; rfl
    have hw : wts m.length (t ++ [x]) = if 0 ≤ x.a ∧ x.a < m.length then wts m.length t ++ [{ x with e := 0 }] else wts m.length t := by
      unfold wts
      rw [List.filter_append, List.map_append]
      by_cases h : 0 ≤ x.a ∧ x.a < m.length
      · rw [if_pos h]
        have : okW m.length x = true := decide_eq_true h
        simp [this]
      · rw [if_neg h]
        have : okW m.length x = false := decide_eq_false h
        simp [this]
    rw [hp, hw]
    have hl := putWs_len m t
    by_cases h : 0 ≤ x.a ∧ x.a < m.length
    · rw [if_pos h, lastAt_snoc]
      unfold putW
      rw [hl, if_pos h]
      by_cases hn : x.a = n
      · rw [if_pos (by simpa using hn)]
        unfold imS
        rw [hn]
        show x.s = ((putWs m t).set n.toNat x.s).getD n.toNat zeroS
        rw [List.getD_eq_getElem?_getD, List.getElem?_set_self (by rw [hl]; omega)]; rfl
      · rw [if_neg (by simpa using hn), ih']
        unfold imS
        rw [List.getD_eq_getElem?_getD, List.getD_eq_getElem?_getD, List.getElem?_set_ne (by omega)]
    · rw [if_neg h]
      unfold putW
      rw [hl, if_neg h]
      exact ih'
theorem rd_im (m : List (List UInt8)) (ws : List Wr) (n : Int) (h0 : 0 ≤ n) : rdS (dskOf m ws) n = imS (withF m ws) n := by
  unfold dskOf withF
  by_cases h : 1 ≤ m.length ∧ m.length ≤ 65
  · rw [if_pos h, if_pos h]
    simp only [rdS]
    by_cases hn : 0 ≤ n ∧ n < m.length
    · rw [if_pos hn]; exact read_eq m _ ws rfl n hn.1 hn.2
    · rw [if_neg hn]
      unfold imS
      rw [List.getD_eq_getElem?_getD, List.getElem?_eq_none (by rw [putWs_len]; omega)]; rfl
  · rw [if_neg h, if_neg h]
    unfold imS
    simp [rdS]
theorem dsk_OK {m : List (List UInt8)} {ws : List Wr} (hm : ImOK m) (hw : WsOK ws) (hwl : ws.length ≤ 1000) : DkOK (dskOf m ws) := by
  unfold dskOf
  split
  · rename_i h
    refine ⟨hm, fun w hw' => ?_, h.2, ?_⟩
    · have hw' : w ∈ (ws.filter (okW m.length)).map fun w => { w with e := 0 } := hw'
      obtain ⟨x, hx, rfl⟩ := List.mem_map.1 hw'
      exact hw x (List.mem_filter.1 hx).1
    · show ((ws.filter (okW m.length)).map _).length ≤ 100000
      rw [List.length_map]
      have := List.length_filter_le (okW m.length) ws
      omega
  · trivial
theorem putWs_ok {m : List (List UInt8)} (hm : ImOK m) : ∀ {ws : List Wr}, WsOK ws → ImOK (putWs m ws) := by
  intro ws
  induction ws generalizing m with
  | nil => intro _; exact hm
  | cons x t ih =>
    intro hw
    refine ih (m := putW m x) (fun s hs => ?_) (fun w hw' => hw w (List.mem_cons_of_mem _ hw'))
    unfold putW at hs
    split at hs
    · rcases List.mem_or_eq_of_mem_set hs with hs | rfl
      · exact hm s hs
      · exact hw x List.mem_cons_self
    · exact hm s hs
theorem with_OK {m : List (List UInt8)} {ws : List Wr} (hm : ImOK m) (hw : WsOK ws) : ImOK (withF m ws) := by
  unfold withF
  split
  · exact putWs_ok hm hw
  · intro s hs; cases hs
theorem inoAt_eq {f g : Int → List UInt8} (h : ∀ n : Int, 0 ≤ n → f n = g n) (n : Int) : inoAt f n = inoAt g n := by
  unfold inoAt
  split
  · rw [h _ (by omega)]
  · rfl
theorem entAt_eq {f g : Int → List UInt8} (h : ∀ n : Int, 0 ≤ n → f n = g n) (n : Int) : entAt f n = entAt g n := by
  unfold entAt
  split
  · rw [h _ (by omega)]
  · rfl
end Go.Proofs.YtenomegafkileaaGreatDoor

/- The law. Conditions: none. -/
namespace Go.Proofs.YtenomegafkileaaGreatDoor
open Go.Sy
set_option maxRecDepth 100000
set_option linter.all false
def folderS : List UInt8 := [2, 0, 0, 0, 0, 0, 0, 0, 0, 0, 0, 0, 0, 0, 0, 0, 0, 0, 0, 0, 0, 0, 0, 0, 0, 0, 0, 0, 0, 0, 0, 0]
def emptyM : List (List UInt8) := superS :: folderS :: List.replicate 63 zeroS
def k1S : List UInt8 := [1, 0, 2, 1, 0, 0, 0, 0, 0, 0, 0, 0, 0, 0, 0, 0, 97, 0, 0, 0, 0, 0, 0, 0, 0, 0, 0, 0, 0, 0, 0, 0]
def k2S : List UInt8 := [1, 0, 0, 0, 0, 0, 0, 0, 0, 0, 0, 0, 0, 0, 0, 0, 0, 0, 0, 0, 0, 0, 0, 0, 0, 0, 0, 0, 0, 0, 0, 0]
def kW : List Wr := [⟨17, k1S, 0, 0, 0⟩, ⟨3, k2S, 0, 0, 0⟩]
theorem em_ok : ImOK emptyM := by
  intro s hs
  simp only [emptyM, List.mem_cons, List.mem_replicate] at hs
  rcases hs with rfl | rfl | ⟨_, rfl⟩ <;> rfl
theorem empty_ok : FnC Tryz.prog 13 [] (.d (encM emptyM)) := by
  have hs := refSuper_ok
  refine FnC.intro ti_ok Tryz.func13 rfl Tryz.ntmps13 Tryz.call13 rfl (Nat.le_of_ble_eq_true rfl) rfl ?_
  (repeat' ((conv => whnf); first | (with_reducible first | refine Spl.tt ?_ | refine Spl.ff ?_) | ((with_reducible refine callE_id ?_); (refine CallE.con ⟨_, hs, ?_⟩)) | (with_reducible first | refine draw_auto ti_ok mixed (by decide +kernel) ?_ | refine g_i64 ?_ | refine g_u64 ?_ | refine g_u8 ?_ | refine g_iq ?_ | refine g_uq ?_ | refine g_rem ?_ | refine LetN.mk ?_ | refine g_hm ?_ | refine g_hb ?_ | refine g_lit ?_ | refine g_nm8 (fun x hx hu => ?_) | refine g_n8 (fun x hx hu => ?_) | refine g_b8 (fun x hx hu => ?_) | refine g_nm (fun x hx => ?_) | refine g_im (fun x hx => ?_) | refine g_n (fun x hx => ?_) | refine g_b (fun x hx => ?_) | refine g_and ?_ | refine g_c ?_ | refine Both.mk ?_ ?_ | refine NilS.ts ?_ | refine LetE.now ?_ | refine AtD.now ?_ | refine LetC.now ?_ | refine g_some ?_ | refine g_yk ?_ | refine g_nk ?_ | refine g_y ?_ | refine g_f ?_ | refine AtA.mk' ?_ | refine Spl.pd (fun h => ?_) (fun h => ?_) | refine Spl.peq (fun h => ?_) (fun h => ?_) | refine Spl.pne (fun h => ?_) (fun h => ?_) | refine Spl.seq (fun h => ?_) (fun h => ?_) | refine Spl.sne (fun h => ?_) (fun h => ?_) | refine Spl.nt ?_ | refine Spl.mk (fun h => ?_) (fun h => ?_))))
  refine ⟨emptyM.map encS, ⟨?_, ?_, ?_, ?_⟩, ?_⟩
  · exact Nat.le_of_ble_eq_true (by kernel_rfl)
  · kernel_rfl
  · intro x hx
    obtain ⟨s, hs, rfl⟩ := List.mem_map.1 hx
    rw [encS_len]; exact em_ok s hs
  · kernel_rfl
  · rfl
def kD : Option Dk := dskOf emptyM kW
theorem f1 : lookP (rdS kD) [47, 97] = (2, 0) := by decide +kernel
theorem f2 : fndK (rdS kD) 0 [97] = some 0 := by decide +kernel
theorem f3 : lookP (rdS kD) [47, 98] = (0, 4) := by decide +kernel
theorem f4 : mntP (imgD kD) := by decide +kernel
theorem f5 : nmsK (rdS kD) 0 24 = [[97]] := by decide +kernel
theorem f6 : takP (rdS kD) 2 := by decide +kernel
theorem f9 : (nms (rdS kD) 0).length = 1 := by
  unfold nms
  rw [f5]
  have h : sortS [[97]] = [[97]] := by simp [sortS]
  rw [h]
  decide +kernel
end Go.Proofs.YtenomegafkileaaGreatDoor

/- The law, whole. Conditions: none. -/
namespace Go.Proofs.YtenomegafkileaaGreatDoor
open Go.Sy
set_option maxRecDepth 100000
set_option linter.all false
end Go.Proofs.YtenomegafkileaaGreatDoor

/- Which inodes are reached: sets that grow. Conditions: none. -/
namespace Go.Proofs.YtenomegafkileaaGreatDoor
open Go.Sy
set_option maxRecDepth 100000
set_option linter.all false
/-- One entry: its target is reached, if its folder is. -/
def stepR (kd : Int → Int) (R : List Bool) (x : Ent) : List Bool :=
  if x.u = true ∧ R.getD x.p.toNat false = true ∧ kd x.p = 2 ∧ kd x.t ≠ 0 then R.set x.t.toNat true else R
def passR (kd : Int → Int) (E : List Ent) (R : List Bool) : List Bool := E.foldl (stepR kd) R
def iterR (kd : Int → Int) (E : List Ent) : Nat → List Bool → List Bool
  | 0, R => R
  | n + 1, R => iterR kd E n (passR kd E R)
def cntR (R : List Bool) : Nat := R.countP (fun b => b)
theorem cntR_set : ∀ (R : List Bool) (i : Nat), i < R.length → R.getD i false = false → cntR (R.set i true) = cntR R + 1
  | [], i, h, _ => by cases h
  | b :: R, 0, _, h => by
    have h : b = false := h
    subst h
    simp [cntR]
  | b :: R, i + 1, h, h2 => by
    have ih := cntR_set R i (by simpa using h) (by simpa [List.getD] using h2)
    unfold cntR at ih ⊢
    rw [List.set_cons_succ, List.countP_cons, List.countP_cons, ih]; omega
theorem set_same : ∀ (R : List Bool) (i : Nat), R.getD i false = true → R.set i true = R
  | [], i, _ => rfl
  | b :: R, 0, h => by
    have h : b = true := h
    subst h; rfl
  | b :: R, i + 1, h => by rw [List.set_cons_succ, set_same R i (by simpa [List.getD] using h)]
theorem set_out (R : List Bool) (i : Nat) (h : R.length ≤ i) : R.set i true = R := List.set_eq_of_length_le h
/-- Does an entry turn the set? -/
def turnsR (kd : Int → Int) (R : List Bool) (x : Ent) : Prop := x.u = true ∧ R.getD x.p.toNat false = true ∧ kd x.p = 2 ∧ kd x.t ≠ 0 ∧ R.getD x.t.toNat false = false ∧ x.t.toNat < R.length
instance (kd : Int → Int) (R : List Bool) (x : Ent) : Decidable (turnsR kd R x) := by unfold turnsR; infer_instance
theorem stepR_len (kd : Int → Int) (R : List Bool) (x : Ent) : (stepR kd R x).length = R.length := by unfold stepR; split <;> simp
theorem stepR_yes {kd : Int → Int} {R : List Bool} {x : Ent} (h : turnsR kd R x) : stepR kd R x = R.set x.t.toNat true ∧ cntR (stepR kd R x) = cntR R + 1 := by
  obtain ⟨h1, h2, h3, h4, h5, h6⟩ := h
  have e : stepR kd R x = R.set x.t.toNat true := if_pos ⟨h1, h2, h3, h4⟩
  exact ⟨e, by rw [e]; exact cntR_set R _ h6 h5⟩
theorem stepR_no {kd : Int → Int} {R : List Bool} {x : Ent} (h : ¬ turnsR kd R x) : stepR kd R x = R := by
  unfold stepR
  split
  · rename_i h1
    rcases Nat.lt_or_ge x.t.toNat R.length with h6 | h6
    · cases hb : R.getD x.t.toNat false with
      | true => exact set_same R _ hb
      | false => exact (h ⟨h1.1, h1.2.1, h1.2.2.1, h1.2.2.2, hb, h6⟩).elim
    · exact set_out R _ h6
  · rfl
theorem stepR_cnt (kd : Int → Int) (R : List Bool) (x : Ent) : cntR R ≤ cntR (stepR kd R x) := by
  by_cases h : turnsR kd R x
  · rw [(stepR_yes h).2]; omega
  · rw [stepR_no h]; exact Nat.le_refl _
theorem passR_len (kd : Int → Int) : ∀ (E : List Ent) (R : List Bool), (passR kd E R).length = R.length
  | [], R => rfl
  | x :: E, R => by
    show (passR kd E (stepR kd R x)).length = _
    rw [passR_len kd E, stepR_len]
theorem passR_cnt (kd : Int → Int) : ∀ (E : List Ent) (R : List Bool), cntR R ≤ cntR (passR kd E R)
  | [], R => Nat.le_refl _
  | x :: E, R => Nat.le_trans (stepR_cnt kd R x) (passR_cnt kd E (stepR kd R x))
theorem passR_snoc (kd : Int → Int) {E : List Ent} {k : Nat} {x : Ent} (h : E[k]? = some x) (R : List Bool) : passR kd (E.take (k + 1)) R = stepR kd (passR kd (E.take k) R) x := by
  unfold passR
  rw [List.take_add_one, h, List.foldl_append]; rfl
theorem cntR_le (R : List Bool) : cntR R ≤ R.length := List.countP_le_length
theorem iterR_add (kd : Int → Int) (E : List Ent) : ∀ (n m : Nat) (R : List Bool), iterR kd E (n + m) R = iterR kd E m (iterR kd E n R)
  | 0, m, R => by rw [Nat.zero_add]; rfl
  | n + 1, m, R => by
    rw [show n + 1 + m = (n + m) + 1 by omega]
    exact iterR_add kd E n m (passR kd E R)
theorem iterR_fix (kd : Int → Int) (E : List Ent) {R : List Bool} (h : passR kd E R = R) : ∀ n, iterR kd E n R = R
  | 0 => rfl
  | n + 1 => by show iterR kd E n (passR kd E R) = R; rw [h]; exact iterR_fix kd E h n
theorem iterR_len (kd : Int → Int) (E : List Ent) : ∀ (n : Nat) (R : List Bool), (iterR kd E n R).length = R.length
  | 0, R => rfl
  | n + 1, R => by show (iterR kd E n (passR kd E R)).length = _; rw [iterR_len kd E n, passR_len]
def R0 : List Bool := true :: List.replicate 15 false
/-- Which inodes are reached. -/
def reachR (kd : Int → Int) (E : List Ent) : List Bool := iterR kd E 16 R0
/-- A set that no pass turns, behind at most 16 of them. -/
theorem reach_at (kd : Int → Int) (E : List Ent) {j : Nat} (hj : j ≤ 16) (h : passR kd E (iterR kd E j R0) = iterR kd E j R0) : iterR kd E j R0 = reachR kd E := by
  unfold reachR
  rw [show 16 = j + (16 - j) by omega, iterR_add, iterR_fix kd E h]
def blks (x : Ino) : List Int := [x.b0, x.b1, x.b2, x.b3]
theorem own1 {x : Ino} (h : RI x) {b : Int} (hb : 1 ≤ b) : (blks x).count b = if x.k = 1 ∧ b ∈ blks x then 1 else 0 := by
  unfold RI at h
  have key : (blks x).count b = (if x.b0 = b then 1 else 0) + (if x.b1 = b then 1 else 0) + (if x.b2 = b then 1 else 0) + (if x.b3 = b then 1 else 0) := by
    simp only [blks, List.count_cons, List.count_nil, beq_iff_eq]; omega
  have hm : b ∈ blks x ↔ (x.b0 = b ∨ x.b1 = b ∨ x.b2 = b ∨ x.b3 = b) := by
    simp only [blks, List.mem_cons, List.not_mem_nil, or_false, eq_comm]
  rw [key]
  by_cases h0 : x.b0 = b <;> by_cases h1 : x.b1 = b <;> by_cases h2 : x.b2 = b <;> by_cases h3 : x.b3 = b
  all_goals
    simp only [h0, h1, h2, h3, if_true, if_false]
    by_cases hk : x.k = 1
    · first
        | (have hp : x.k = 1 ∧ b ∈ blks x := ⟨hk, hm.2 (by simp only [h0, h1, h2, h3, true_or, or_true])⟩
           rw [if_pos hp] <;> omega)
        | (have hn : ¬ (x.k = 1 ∧ b ∈ blks x) := fun q => by have := hm.1 q.2; omega
           rw [if_neg hn])
    · have hn : ¬ (x.k = 1 ∧ b ∈ blks x) := fun q => hk q.1
      first | (exfalso; omega) | (rw [if_neg hn]; done)
/-- The problems of entries by the first q pairs of a kind and an entry. -/
def prbK (P : Nat → Nat → Bool) (q : Nat) : List (Int × Int) := ((List.range q).filter fun j => P (j / 24 + 1) (j % 24)).map fun j => (((j / 24 + 1 : Nat) : Int), ((j % 24 : Nat) : Int))
/-- Those of blocks, by the first q blocks. -/
def prbB (own : Nat → Nat) (q : Nat) : List (Int × Int) := ((List.range q).filter fun j => decide (1 < own (j + 1))).map fun j => (6, ((j + 1 : Nat) : Int))
theorem prbK_yes {P : Nat → Nat → Bool} {i k : Nat} (hk : k < 24) (h : P (i + 1) k = true) : prbK P (24 * i + (k + 1)) = prbK P (24 * i + k) ++ [(((i + 1 : Nat) : Int), (k : Int))] := by
  unfold prbK
  rw [show 24 * i + (k + 1) = (24 * i + k) + 1 by omega, List.range_succ, List.filter_append, List.map_append]
  have e1 : (24 * i + k) / 24 = i := by omega
  have e2 : (24 * i + k) % 24 = k := by omega
  have e3 : (24 * (i : Int) + k) / 24 = i := by omega
  have e4 : (k : Int) % 24 = k := by omega
  simp [e1, e2, e3, e4, h]
theorem prbK_no {P : Nat → Nat → Bool} {i k : Nat} (hk : k < 24) (h : P (i + 1) k = false) : prbK P (24 * i + (k + 1)) = prbK P (24 * i + k) := by
  unfold prbK
  rw [show 24 * i + (k + 1) = (24 * i + k) + 1 by omega, List.range_succ, List.filter_append, List.map_append]
  have e1 : (24 * i + k) / 24 = i := by omega
  have e2 : (24 * i + k) % 24 = k := by omega
  simp [e1, e2, h]
theorem prbB_yes {own : Nat → Nat} {k : Nat} (h : 1 < own (k + 1)) : prbB own (k + 1) = prbB own k ++ [(6, ((k + 1 : Nat) : Int))] := by
  unfold prbB
  rw [List.range_succ, List.filter_append, List.map_append]
  simp [h]
theorem prbB_no {own : Nat → Nat} {k : Nat} (h : ¬ 1 < own (k + 1)) : prbB own (k + 1) = prbB own k := by
  unfold prbB
  rw [List.range_succ, List.filter_append, List.map_append]
  simp [h]
theorem prbK_len (P : Nat → Nat → Bool) (q : Nat) : (prbK P q).length ≤ q := by
  unfold prbK
  rw [List.length_map]
  exact Nat.le_trans (List.length_filter_le _ _) (by rw [List.length_range]; exact Nat.le_refl _)
theorem prbB_len (own : Nat → Nat) (q : Nat) : (prbB own q).length ≤ q := by
  unfold prbB
  rw [List.length_map]
  exact Nat.le_trans (List.length_filter_le _ _) (by rw [List.length_range]; exact Nat.le_refl _)
end Go.Proofs.YtenomegafkileaaGreatDoor

/- Elements of a row of cells, read and set. Conditions: none. -/
namespace Go.Proofs.YtenomegafkileaaGreatDoor
open Go.Sy
set_option maxRecDepth 100000
set_option linter.all false
theorem splice {α : Type} (pre M post l : List α) (j : Nat) (h : j + l.length ≤ M.length) :
    (pre ++ M ++ post).take (pre.length + j) ++ l ++ (pre ++ M ++ post).drop (pre.length + j + l.length) = pre ++ (M.take j ++ l ++ M.drop (j + l.length)) ++ post := by
  have e1 : (pre ++ M ++ post).take (pre.length + j) = pre ++ M.take j := by
    rw [List.append_assoc, List.take_append, List.take_of_length_le (by omega), List.take_append]
    rw [show pre.length + j - pre.length = j by omega, show j - M.length = 0 by omega]
    simp
  have e2 : (pre ++ M ++ post).drop (pre.length + j + l.length) = M.drop (j + l.length) ++ post := by
    rw [List.append_assoc, List.drop_append, List.drop_eq_nil_of_le (by omega), List.nil_append, List.drop_append]
    rw [show pre.length + j + l.length - pre.length = j + l.length by omega, show j + l.length - M.length = 0 by omega]
    simp
  rw [e1, e2]
  simp only [List.append_assoc]
theorem fm_len {α β : Type} {enc : α → List β} {sz : Nat} (h : ∀ x, (enc x).length = sz) : ∀ L : List α, (L.flatMap enc).length = L.length * sz
  | [] => by simp
  | x :: L => by rw [List.flatMap_cons, List.length_append, h, fm_len h L, List.length_cons, Nat.add_mul]; omega
theorem fm_take {α β : Type} {enc : α → List β} {sz : Nat} (h : ∀ x, (enc x).length = sz) : ∀ (L : List α) (i : Nat), (L.flatMap enc).take (i * sz) = (L.take i).flatMap enc
  | [], i => by simp
  | x :: L, 0 => by simp
  | x :: L, i + 1 => by
    rw [List.take_succ_cons, List.flatMap_cons, List.flatMap_cons, Nat.add_mul, Nat.one_mul, List.take_append, List.take_of_length_le (by rw [h]; omega), h, show i * sz + sz - sz = i * sz by omega, fm_take h L i]
theorem fm_drop {α β : Type} {enc : α → List β} {sz : Nat} (h : ∀ x, (enc x).length = sz) : ∀ (L : List α) (i : Nat), (L.flatMap enc).drop (i * sz) = (L.drop i).flatMap enc
  | [], i => by simp
  | x :: L, 0 => by simp
  | x :: L, i + 1 => by
    rw [List.drop_succ_cons, List.flatMap_cons, Nat.add_mul, Nat.one_mul, List.drop_append, List.drop_eq_nil_of_le (by rw [h]; omega), h, show i * sz + sz - sz = i * sz by omega, fm_drop h L i, List.nil_append]
theorem fm_set {α β : Type} {enc : α → List β} {sz : Nat} (h : ∀ x, (enc x).length = sz) (L : List α) (i : Nat) (x : α) (hi : i < L.length) :
    (L.flatMap enc).take (i * sz) ++ enc x ++ (L.flatMap enc).drop (i * sz + (enc x).length) = (L.set i x).flatMap enc := by
  rw [h, show i * sz + sz = (i + 1) * sz by rw [Nat.add_mul]; omega, fm_take h, fm_drop h, List.set_eq_take_append_cons_drop, if_pos hi, List.flatMap_append, List.flatMap_cons, List.append_assoc]
/-- An element in the midst. -/
theorem fm_at {α β : Type} {enc : α → List β} {sz : Nat} (h : ∀ x, (enc x).length = sz) (pre post : List β) (L : List α) (i : Nat) (x : α) (hx : L[i]? = some x) :
    ((pre ++ L.flatMap enc ++ post).drop (pre.length + i * sz)).take sz = enc x := by
  have hi := (List.getElem?_eq_some_iff.1 hx).1
  have e2 : (pre ++ L.flatMap enc ++ post).drop (pre.length + i * sz) = (L.drop i).flatMap enc ++ post := by
    rw [List.append_assoc, List.drop_append, List.drop_eq_nil_of_le (by omega), List.nil_append, List.drop_append]
    rw [show pre.length + i * sz - pre.length = i * sz by omega, fm_drop h]
    have : i * sz - (L.flatMap enc).length = 0 := by
      rw [fm_len h]
      have := Nat.mul_le_mul_right sz (Nat.le_of_lt hi)
      omega
    rw [this]; simp
  have e3 : L.drop i = x :: L.drop (i + 1) := by
    rw [List.drop_eq_getElem_cons hi, (List.getElem?_eq_some_iff.1 hx).2]
  rw [e2, e3, List.flatMap_cons, List.append_assoc, List.take_append_of_le_length (by rw [h]; omega), List.take_of_length_le (by rw [h]; omega)]
theorem fm_setM {α β : Type} {enc : α → List β} {sz : Nat} (h : ∀ x, (enc x).length = sz) (pre post : List β) (L : List α) (i : Nat) (x : α) (hi : i < L.length) {a b : Nat} (ha : a = pre.length + i * sz) (hb : b = a + sz) :
    (pre ++ L.flatMap enc ++ post).take a ++ enc x ++ (pre ++ L.flatMap enc ++ post).drop b = pre ++ (L.set i x).flatMap enc ++ post := by
  subst ha hb
  have hl : i * sz + (enc x).length ≤ (L.flatMap enc).length := by
    rw [fm_len h, h]
    have := Nat.mul_le_mul_right sz hi
    rw [Nat.succ_mul] at this; exact this
  have := splice pre (L.flatMap enc) post (enc x) (i * sz) hl
  rw [fm_set h L i x hi, h] at this
  exact this
end Go.Proofs.YtenomegafkileaaGreatDoor

/- What the checker has: its cells; is an entry sound? Conditions: none. -/
namespace Go.Proofs.YtenomegafkileaaGreatDoor
open Go.Sy
set_option maxRecDepth 100000
set_option linter.all false
def encX (d : Option Dk) (I : List Ino) (E : List Ent) (R : List Bool) : List D := [encD d] ++ I.flatMap encI ++ E.flatMap encE ++ R.flatMap fun b => [D.bl b]
theorem encI_len (x : Ino) : (encI x).length = 6 := rfl
theorem encE_len (x : Ent) : (encE x).length = 4 := rfl
structure XOK (I : List Ino) (E : List Ent) (R : List Bool) : Prop where
  i : I.length = 16
  e : E.length = 24
  r : R.length = 16
  p : ∀ x ∈ E, x.u = true → 0 ≤ x.p ∧ x.p < 16 ∧ 1 ≤ x.t ∧ x.t < 16
section
variable {d : Option Dk} {I : List Ino} {E : List Ent} {R : List Bool}
theorem x_len (h : XOK I E R) : (encX d I E R).length = 209 := by
  unfold encX
  simp only [List.length_append, fm_len encI_len, fm_len encE_len, fm_len (enc := fun b => [D.bl b]) (sz := 1) (fun _ => rfl), h.i, h.e, h.r]; rfl
theorem x_d1 : (encX d I E R).drop 1 = I.flatMap encI ++ E.flatMap encE ++ R.flatMap fun b => [D.bl b] := rfl
theorem x_d97 (h : XOK I E R) : (encX d I E R).drop 97 = E.flatMap encE ++ R.flatMap fun b => [D.bl b] := by
  unfold encX
  rw [List.append_assoc, List.drop_append, List.drop_eq_nil_of_le (by simp [fm_len encI_len, h.i]), List.nil_append]
  simp [fm_len encI_len, h.i]
theorem x_d193 (h : XOK I E R) : (encX d I E R).drop 193 = R.flatMap fun b => [D.bl b] := by
  unfold encX
  rw [List.drop_append, List.drop_eq_nil_of_le (by simp [fm_len encI_len, fm_len encE_len, h.i, h.e]), List.nil_append]
  simp [fm_len encI_len, fm_len encE_len, h.i, h.e]
theorem at_R {n : Int} {b : Bool} (hb : R[n.toNat]? = some b) : ((R.flatMap fun b => [D.bl b]).drop (n.toNat * 1)).take 1 = [.bl b] := by
  have := fm_at (enc := fun b => [D.bl b]) (sz := 1) (fun _ => rfl) [] [] R n.toNat b hb
  simpa using this
theorem at_I {n : Int} {x : Ino} (hx : I[n.toNat]? = some x) : ((I.flatMap encI ++ E.flatMap encE ++ R.flatMap fun b => [D.bl b]).drop (n.toNat * 6)).take 6 = encI x := by
  have := fm_at encI_len [] (E.flatMap encE ++ R.flatMap fun b => [D.bl b]) I n.toNat x hx
  simpa using this
theorem at_E {n : Int} {x : Ent} (hx : E[n.toNat]? = some x) : ((E.flatMap encE ++ R.flatMap fun b => [D.bl b]).drop (n.toNat * 4)).take 4 = encE x := by
  have := fm_at encE_len [] (R.flatMap fun b => [D.bl b]) E n.toNat x hx
  simpa using this
end
/-- Is an entry used, and in a folder that is reached? -/
def sndP (I : List Ino) (R : List Bool) (x : Ent) : Prop := x.u = true ∧ R.getD x.p.toNat false = true ∧ (I.getD x.p.toNat ino0).k = 2
instance (I : List Ino) (R : List Bool) (x : Ent) : Decidable (sndP I R x) := by unfold sndP; infer_instance
set_option maxHeartbeats 8000000 in
theorem sound_ok {d : Option Dk} {I : List Ino} {E : List Ent} {R : List Bool} (h : XOK I E R) {x : Ent} (hx : x ∈ E) : FnC Tryz.prog 43 [.d (.fp 209 (encX d I E R)), .dg 4 (encE x)] (.d (.bl (decide (sndP I R x)))) := by
  have h193 := x_d193 (d := d) h
  cases hu : x.u with
  | false =>
    have hxe : encE x = [.bl false, .it .i64 x.p, .st x.n, .it .i64 x.t] := by rw [encE, hu]
    rw [hxe]
    refine FnC.intro ti_ok Tryz.func43 rfl Tryz.ntmps43 Tryz.call43 rfl (Nat.le_of_ble_eq_true rfl) rfl ?_
    (repeat' ((conv => whnf); first | (with_reducible first | refine Spl.tt ?_ | refine Spl.ff ?_) | (with_reducible first | refine draw_auto ti_ok mixed (by decide +kernel) ?_ | refine g_i64 ?_ | refine g_u64 ?_ | refine g_u8 ?_ | refine g_iq ?_ | refine g_uq ?_ | refine g_rem ?_ | refine LetN.mk ?_ | refine g_hm ?_ | refine g_hb ?_ | refine g_lit ?_ | refine g_nm8 (fun x hx hu => ?_) | refine g_n8 (fun x hx hu => ?_) | refine g_b8 (fun x hx hu => ?_) | refine g_nm (fun x hx => ?_) | refine g_im (fun x hx => ?_) | refine g_n (fun x hx => ?_) | refine g_b (fun x hx => ?_) | refine g_and ?_ | refine g_c ?_ | refine Both.mk ?_ ?_ | refine NilS.ts ?_ | refine LetE.now ?_ | refine AtD.now ?_ | refine LetC.now ?_ | refine g_some ?_ | refine g_yk ?_ | refine g_nk ?_ | refine g_y ?_ | refine g_f ?_ | refine AtA.mk' ?_ | refine Spl.pd (fun h => ?_) (fun h => ?_) | refine Spl.peq (fun h => ?_) (fun h => ?_) | refine Spl.pne (fun h => ?_) (fun h => ?_) | refine Spl.seq (fun h => ?_) (fun h => ?_) | refine Spl.sne (fun h => ?_) (fun h => ?_) | refine Spl.nt ?_ | refine Spl.mk (fun h => ?_) (fun h => ?_))))
    exact bl_ff (fun q => by rw [q.1] at hu; cases hu)
  | true =>
    have hxe : encE x = [.bl true, .it .i64 x.p, .st x.n, .it .i64 x.t] := by rw [encE, hu]
    rw [hxe]
    obtain ⟨p1, p2, _, _⟩ := h.p x hx hu
    obtain ⟨r, hr⟩ := lt_get (l := R) (k := x.p.toNat) (by rw [h.r]; omega)
    obtain ⟨y, hy⟩ := lt_get (l := I) (k := x.p.toNat) (by rw [h.i]; omega)
    have hP : sndP I R x ↔ r = true ∧ y.k = 2 := by
      unfold sndP
      rw [List.getD_eq_getElem?_getD, hr, List.getD_eq_getElem?_getD, hy]
      exact ⟨fun q => q.2, fun q => ⟨hu, q⟩⟩
    have hR := at_R hr
    have hI := at_I (E := E) (R := R) hy
    cases r with
    | false =>
      refine FnC.intro ti_ok Tryz.func43 rfl Tryz.ntmps43 Tryz.call43 rfl (Nat.le_of_ble_eq_true rfl) rfl ?_
      (repeat' ((conv => whnf); first | (with_reducible first | refine Spl.tt ?_ | refine Spl.ff ?_) | ((with_reducible refine atD_id ?_); first | refine AtD.eq h193 ?_ | refine AtD.eq hR ?_ | refine AtD.eq hI ?_ | refine AtD.now ?_) | (with_reducible first | refine draw_auto ti_ok mixed (by decide +kernel) ?_ | refine g_i64 ?_ | refine g_u64 ?_ | refine g_u8 ?_ | refine g_iq ?_ | refine g_uq ?_ | refine g_rem ?_ | refine LetN.mk ?_ | refine g_hm ?_ | refine g_hb ?_ | refine g_lit ?_ | refine g_nm8 (fun x hx hu => ?_) | refine g_n8 (fun x hx hu => ?_) | refine g_b8 (fun x hx hu => ?_) | refine g_nm (fun x hx => ?_) | refine g_im (fun x hx => ?_) | refine g_n (fun x hx => ?_) | refine g_b (fun x hx => ?_) | refine g_and ?_ | refine g_c ?_ | refine Both.mk ?_ ?_ | refine NilS.ts ?_ | refine LetE.now ?_ | refine AtD.now ?_ | refine LetC.now ?_ | refine g_some ?_ | refine g_yk ?_ | refine g_nk ?_ | refine g_y ?_ | refine g_f ?_ | refine AtA.mk' ?_ | refine Spl.pd (fun h => ?_) (fun h => ?_) | refine Spl.peq (fun h => ?_) (fun h => ?_) | refine Spl.pne (fun h => ?_) (fun h => ?_) | refine Spl.seq (fun h => ?_) (fun h => ?_) | refine Spl.sne (fun h => ?_) (fun h => ?_) | refine Spl.nt ?_ | refine Spl.mk (fun h => ?_) (fun h => ?_))))
      exact bl_ff (fun q => by have := (hP.1 q).1; cases this)
    | true =>
      refine FnC.intro ti_ok Tryz.func43 rfl Tryz.ntmps43 Tryz.call43 rfl (Nat.le_of_ble_eq_true rfl) rfl ?_
      (repeat' ((conv => whnf); first | (with_reducible first | refine Spl.tt ?_ | refine Spl.ff ?_) | ((with_reducible refine atD_id ?_); first | refine AtD.eq h193 ?_ | refine AtD.eq hR ?_ | refine AtD.eq hI ?_ | refine AtD.now ?_) | (with_reducible first | refine draw_auto ti_ok mixed (by decide +kernel) ?_ | refine g_i64 ?_ | refine g_u64 ?_ | refine g_u8 ?_ | refine g_iq ?_ | refine g_uq ?_ | refine g_rem ?_ | refine LetN.mk ?_ | refine g_hm ?_ | refine g_hb ?_ | refine g_lit ?_ | refine g_nm8 (fun x hx hu => ?_) | refine g_n8 (fun x hx hu => ?_) | refine g_b8 (fun x hx hu => ?_) | refine g_nm (fun x hx => ?_) | refine g_im (fun x hx => ?_) | refine g_n (fun x hx => ?_) | refine g_b (fun x hx => ?_) | refine g_and ?_ | refine g_c ?_ | refine Both.mk ?_ ?_ | refine NilS.ts ?_ | refine LetE.now ?_ | refine AtD.now ?_ | refine LetC.now ?_ | refine g_some ?_ | refine g_yk ?_ | refine g_nk ?_ | refine g_y ?_ | refine g_f ?_ | refine AtA.mk' ?_ | refine Spl.pd (fun h => ?_) (fun h => ?_) | refine Spl.peq (fun h => ?_) (fun h => ?_) | refine Spl.pne (fun h => ?_) (fun h => ?_) | refine Spl.seq (fun h => ?_) (fun h => ?_) | refine Spl.sne (fun h => ?_) (fun h => ?_) | refine Spl.nt ?_ | refine Spl.mk (fun h => ?_) (fun h => ?_))))
      refine bl_of ?_
      rw [beq_iff_eq, hP]
      exact ⟨fun q => ⟨rfl, q⟩, fun q => q.2⟩
section
variable {d : Option Dk} {I : List Ino} {E : List Ent} {R : List Bool}
theorem ldX_R (h : XOK I E R) {n : Nat} {b : Bool} (hb : R[n]? = some b) {ty : Ty} (ha : ty.kd.agg = false) {off : Nat} (ho : off = 193 + n * 1) : ldA ty off ((encX d I E R).map AV.d) = .d (.bl b) := by
  subst ho
  unfold ldA
  rw [ha, cond_false, List.getD_eq_getElem?_getD, List.getElem?_map]
  have e := fm_at (enc := fun b => [D.bl b]) (sz := 1) (fun _ => rfl) [] [] R n b hb
  have e2 : (encX d I E R)[193 + n * 1]? = some (.bl b) := by
    have h1 : ((encX d I E R).drop 193)[n * 1]? = (encX d I E R)[193 + n * 1]? := List.getElem?_drop
    rw [← h1, x_d193 h]
    have h2 : (((R.flatMap fun b => [D.bl b]).drop (n * 1)).take 1)[0]? = some (.bl b) := by
      have : (((R.flatMap fun b => [D.bl b]).drop (n * 1)).take 1) = [.bl b] := by simpa using e
      rw [this]; rfl
    rw [List.getElem?_take, if_pos (by decide), List.getElem?_drop] at h2
    simpa using h2
  rw [e2]; rfl
theorem ldX_I (h : XOK I E R) {n : Nat} {x : Ino} (hx : I[n]? = some x) {ty : Ty} (ha : ty.kd.agg = false) {off : Nat} (ho : off = 1 + n * 6 + 0) : ldA ty off ((encX d I E R).map AV.d) = .d (.it .i64 x.k) := by
  subst ho
  unfold ldA
  rw [ha, cond_false, List.getD_eq_getElem?_getD, List.getElem?_map]
  have e := fm_at encI_len [encD d] (E.flatMap encE ++ R.flatMap fun b => [D.bl b]) I n x hx
  have e2 : (encX d I E R)[1 + n * 6]? = some (.it .i64 x.k) := by
    have h2 : (((encX d I E R).drop (1 + n * 6)).take 6)[0]? = some (.it .i64 x.k) := by
      have : ((encX d I E R).drop (1 + n * 6)).take 6 = encI x := by
        unfold encX
        rw [List.append_assoc ([encD d] ++ _)]
        exact e
      rw [this]; rfl
    rw [List.getElem?_take, if_pos (by decide), List.getElem?_drop] at h2
    simpa using h2
  rw [show 1 + n * 6 + 0 = 1 + n * 6 from rfl, e2]; rfl
theorem ldX_E (h : XOK I E R) {ty : Ty} (ha : ty.kd.agg = true) (hz : ty.size = 96) : ldA ty 97 ((encX d I E R).map AV.d) = .dg 96 (E.flatMap encE) := by
  unfold ldA
  rw [ha, cond_true, hz]
  have e : (((encX d I E R).map AV.d).drop 97).take 96 = (E.flatMap encE).map AV.d := by
    rw [← List.map_drop, x_d97 h, ← List.map_take, List.take_left' (by rw [fm_len encE_len, h.e])]
  rw [e]
  unfold mkAg
  rw [allD_map]
theorem stX_R (h : XOK I E R) {n : Nat} (hn : n < 16) {b : Bool} {i j : Nat} (hi : i = 193 + n * 1) (hj : j = i + 1) :
    ((encX d I E R).map AV.d).take i ++ [AV.d (.bl b)] ++ ((encX d I E R).map AV.d).drop j = (encX d I E (R.set n b)).map AV.d := by
  have e := fm_setM (enc := fun b => [D.bl b]) (sz := 1) (fun _ => rfl) ([encD d] ++ I.flatMap encI ++ E.flatMap encE) [] R n b (by rw [h.r]; exact hn) (a := i) (b := j)
    (by simp [fm_len encI_len, fm_len encE_len, h.i, h.e]; omega) hj
  rw [← List.map_take, ← List.map_drop]
  have e' : (encX d I E R).take i ++ [D.bl b] ++ (encX d I E R).drop j = encX d I E (R.set n b) := by
    simpa [encX] using e
  rw [← e', List.map_append, List.map_append]; rfl
end
end Go.Proofs.YtenomegafkileaaGreatDoor

/- One pass over the entries. Conditions: none. -/
namespace Go.Proofs.YtenomegafkileaaGreatDoor
open Go.Sy
set_option maxRecDepth 100000
set_option linter.all false
def kdI (I : List Ino) (n : Int) : Int := (I.getD n.toNat ino0).k
theorem xok_pass {I : List Ino} {E : List Ent} {R : List Bool} (h : XOK I E R) (kd : Int → Int) (L : List Ent) : XOK I E (passR kd L R) := ⟨h.i, h.e, by rw [passR_len]; exact h.r, h.p⟩
theorem callR_id {P : Program} {mem : List (Nat × Ob)} {f : Nat} {l : List AV} {K : AV → Prop} (h : CallR P mem f l K) : CallR P mem f l K := h
theorem ldD_E {E : List Ent} {n : Int} {x : Ent} (hx : E[n.toNat]? = some x) {ty : Ty} (ha : ty.kd.agg = true) (hz : ty.size = 4) : ldD ty ((E.flatMap encE).drop (n.toNat * 4)) = .dg 4 (encE x) := by
  unfold ldD
  rw [ha, cond_true, hz]
  have := fm_at encE_len [] [] E n.toNat x hx
  have e : ((E.flatMap encE).drop (n.toNat * 4)).take 4 = encE x := by simpa using this
  rw [e]
def rpA (d : Option Dk) (I : List Ino) (E : List Ent) (R : List Bool) (T : Nat) (k : Nat) (R' : List Bool) (m : Bool) : S :=
  ⟨[(0, .ptr 0 0), (3, .d (.bl m)), (9, .dg 96 (E.flatMap encE)), (10, .d (.it .i64 (k : Nat)))], [(0, .cells 209 ((encX d I E R').map .d)), (1, .frame 2 [(0, .ptr 0 0)]), (2, .tag 0 T)], 3⟩
theorem rpA_ok (d : Option Dk) (I : List Ino) (E : List Ent) (R : List Bool) (T : Nat) (k : Nat) (R' : List Bool) (m : Bool) : (rpA d I E R T k R' m).ok = true := by
  unfold rpA
  simp only [S.ok, List.all_cons, List.all_nil, Ob.lt, all_d]; rfl
theorem X_m1 (d : Option Dk) (I : List Ino) (E : List Ent) (R : List Bool) : (Ob.cells 209 ((encX d I E R).map .d)).m1 false = true := by
  show (!false && (Sy.allD _).isSome) = true
  rw [allD_map]; rfl
def rpI (I : List Ino) (E : List Ent) (R : List Bool) (x : Nat × List Bool × Bool) : Prop := x.1 ≤ 24 ∧ x.2.1 = passR (kdI I) (E.take x.1) R ∧ x.2.2 = decide (cntR R < cntR x.2.1)
set_option maxHeartbeats 8000000 in
theorem reach_ok {d : Option Dk} {I : List Ino} {E : List Ent} {R : List Bool} (h : XOK I E R) :
    FnM Tryz.prog 32 false [.ptr 0 0] (.cells 209 ((encX d I E R).map .d)) (.cells 209 ((encX d I E (passR (kdI I) E R)).map .d)) (.d (.bl (decide (cntR R < cntR (passR (kdI I) E R))))) := by
  refine FnM.intro ti_ok Tryz.func32 rfl Tryz.ntmps32 Tryz.call32 rfl (X_m1 ..) (X_m1 ..) rfl (Nat.le_of_ble_eq_true rfl) .cells ?_
  intro T
  have hl0 := allD_map (encX d I E R)
  (repeat' ((conv => whnf); first | (with_reducible first | refine Spl.tt ?_ | refine Spl.ff ?_) | ((with_reducible refine atA_id ?_); first | refine AtA.eq (ldX_E h rfl rfl) ?_) | (with_reducible first | refine draw_auto ti_ok mixed (by decide +kernel) ?_ | refine g_i64 ?_ | refine g_u64 ?_ | refine g_u8 ?_ | refine g_iq ?_ | refine g_uq ?_ | refine g_rem ?_ | refine LetN.mk ?_ | refine g_hm ?_ | refine g_hb ?_ | refine g_lit ?_ | refine g_nm8 (fun x hx hu => ?_) | refine g_n8 (fun x hx hu => ?_) | refine g_b8 (fun x hx hu => ?_) | refine g_nm (fun x hx => ?_) | refine g_im (fun x hx => ?_) | refine g_n (fun x hx => ?_) | refine g_b (fun x hx => ?_) | refine g_and ?_ | refine g_c ?_ | refine Both.mk ?_ ?_ | refine NilS.ts ?_ | refine LetE.now ?_ | refine AtD.now ?_ | refine LetC.now ?_ | refine g_some ?_ | refine g_yk ?_ | refine g_nk ?_ | refine g_y ?_ | refine g_f ?_ | refine AtA.mk' ?_ | refine Spl.pd (fun h => ?_) (fun h => ?_) | refine Spl.peq (fun h => ?_) (fun h => ?_) | refine Spl.pne (fun h => ?_) (fun h => ?_) | refine Spl.seq (fun h => ?_) (fun h => ?_) | refine Spl.sne (fun h => ?_) (fun h => ?_) | refine Spl.nt ?_ | refine Spl.mk (fun h => ?_) (fun h => ?_))))
  conv => whnf
  refine loop_rule ti_ok (rpI I E R) (fun x => rpA d I E R T x.1 x.2.1 x.2.2) (fun x => 24 - x.1) (0, R, false) ⟨Nat.zero_le _, rfl, by simp⟩ ⟨And.intro rfl (And.intro rfl (And.intro rfl (And.intro rfl trivial))), And.intro rfl (And.intro rfl (And.intro rfl trivial)), rpA_ok ..⟩ ?_
  intro ⟨k, R', m⟩ hk0
  have hkl := hk0.1
  have hRk := hk0.2.1
  have hm := hk0.2.2
  dsimp only at hkl hRk hm
  by_cases hk : k < 24
  · have hg : E[k]? = some (E[k]'(by rw [h.e]; exact hk)) := List.getElem?_eq_getElem _
    have hmem : E[k]'(by rw [h.e]; exact hk) ∈ E := List.getElem_mem _
    have hsn := passR_snoc (kdI I) hg R
    have hx := xok_pass h (kdI I) (E.take k)
    have hc1 := passR_cnt (kdI I) (E.take k) R
    rw [← hRk] at hsn hx hc1
    generalize E[k]'(by rw [h.e]; exact hk) = e at hg hmem hsn
    have hgI : E[((k : Nat) : Int).toNat]? = some e := hg
    have hs := sound_ok (d := d) hx hmem
    have hal := allD_map (encX d I E R')
    have hdr : (((encX d I E R').map AV.d).drop 0).take 209 = (encX d I E R').map AV.d := by
      rw [List.drop_zero, List.take_of_length_le (by rw [List.length_map, x_len hx]; exact Nat.le_refl _)]
    by_cases hsp : sndP I R' e
    · rw [decide_eq_true hsp] at hs
      have hu := hsp.1
      have hp := h.p e hmem hu
      have hr : R'[e.t.toNat]? = some (R'[e.t.toNat]'(by rw [hx.r]; omega)) := List.getElem?_eq_getElem _
      have hy : I[e.t.toNat]? = some (I[e.t.toNat]'(by rw [h.i]; omega)) := List.getElem?_eq_getElem _
      generalize R'[e.t.toNat]'(by rw [hx.r]; omega) = r at hr
      generalize I[e.t.toNat]'(by rw [h.i]; omega) = y at hy
      have hT : turnsR (kdI I) R' e ↔ r = false ∧ y.k ≠ 0 := by
        unfold turnsR kdI
        rw [List.getD_eq_getElem?_getD (l := R') (i := e.t.toNat), hr, List.getD_eq_getElem?_getD (l := I) (i := e.t.toNat), hy]
        exact ⟨fun q => ⟨q.2.2.2.2.1, q.2.2.2.1⟩, fun q => ⟨hu, hsp.2.1, hsp.2.2, q.2, q.1, by rw [hx.r]; omega⟩⟩
      by_cases hrr : r = true
      · have hst := hsn.trans (stepR_no (fun q => by have := (hT.1 q).1; rw [hrr] at this; cases this))
        rw [hrr] at hr
        (repeat' ((conv => whnf); first | (with_reducible first | refine Spl.tt ?_ | refine Spl.ff ?_) | ((with_reducible refine atA_id ?_); first | refine AtA.eq (ldD_E hgI rfl rfl) ?_ | refine AtA.eq (ldX_R hx hr rfl rfl) ?_ | refine AtA.eq (ldX_I hx hy rfl rfl) ?_) | ((with_reducible refine callR_id ?_); refine CallR.mk ⟨[AV.d (.fp 209 (encX d I E R')), .dg 4 (encE e)], _, And.intro ⟨209, _, by with_unfolding_all exact rfl, Nat.le_refl _, x_len hx, hdr⟩ (And.intro (by with_unfolding_all exact rfl) trivial), hs, rfl, ?_⟩) | (with_reducible first | refine draw_auto ti_ok mixed (by decide +kernel) ?_ | refine g_i64 ?_ | refine g_u64 ?_ | refine g_u8 ?_ | refine g_iq ?_ | refine g_uq ?_ | refine g_rem ?_ | refine LetN.mk ?_ | refine g_hm ?_ | refine g_hb ?_ | refine g_lit ?_ | refine g_nm8 (fun x hx hu => ?_) | refine g_n8 (fun x hx hu => ?_) | refine g_b8 (fun x hx hu => ?_) | refine g_nm (fun x hx => ?_) | refine g_im (fun x hx => ?_) | refine g_n (fun x hx => ?_) | refine g_b (fun x hx => ?_) | refine g_and ?_ | refine g_c ?_ | refine Both.mk ?_ ?_ | refine NilS.ts ?_ | refine LetE.now ?_ | refine AtD.now ?_ | refine LetC.now ?_ | refine g_some ?_ | refine g_yk ?_ | refine g_nk ?_ | refine g_y ?_ | refine g_f ?_ | refine AtA.mk' ?_ | refine Spl.pd (fun h => ?_) (fun h => ?_) | refine Spl.peq (fun h => ?_) (fun h => ?_) | refine Spl.pne (fun h => ?_) (fun h => ?_) | refine Spl.seq (fun h => ?_) (fun h => ?_) | refine Spl.sne (fun h => ?_) (fun h => ?_) | refine Spl.nt ?_ | refine Spl.mk (fun h => ?_) (fun h => ?_))))
        refine again (k + 1, R', m) ⟨hk, hst.symm, hm⟩ (by dsimp only; omega) (And.intro rfl (And.intro rfl (And.intro rfl (And.intro (it_eq (by dsimp only; omega)) trivial)))) (And.intro rfl (And.intro rfl (And.intro rfl trivial))) (rpA_ok ..)
      · have hrf : r = false := by simpa using hrr
        rw [hrf] at hr
        by_cases hyk : y.k = 0
        · have hst := hsn.trans (stepR_no (fun q => (hT.1 q).2 hyk))
          (repeat' ((conv => whnf); first | (with_reducible first | refine Spl.tt ?_ | refine Spl.ff ?_) | ((with_reducible refine atA_id ?_); first | refine AtA.eq (ldD_E hgI rfl rfl) ?_ | refine AtA.eq (ldX_R hx hr rfl rfl) ?_ | refine AtA.eq (ldX_I hx hy rfl rfl) ?_) | ((with_reducible refine callR_id ?_); refine CallR.mk ⟨[AV.d (.fp 209 (encX d I E R')), .dg 4 (encE e)], _, And.intro ⟨209, _, by with_unfolding_all exact rfl, Nat.le_refl _, x_len hx, hdr⟩ (And.intro (by with_unfolding_all exact rfl) trivial), hs, rfl, ?_⟩) | (with_reducible first | refine draw_auto ti_ok mixed (by decide +kernel) ?_ | refine g_i64 ?_ | refine g_u64 ?_ | refine g_u8 ?_ | refine g_iq ?_ | refine g_uq ?_ | refine g_rem ?_ | refine LetN.mk ?_ | refine g_hm ?_ | refine g_hb ?_ | refine g_lit ?_ | refine g_nm8 (fun x hx hu => ?_) | refine g_n8 (fun x hx hu => ?_) | refine g_b8 (fun x hx hu => ?_) | refine g_nm (fun x hx => ?_) | refine g_im (fun x hx => ?_) | refine g_n (fun x hx => ?_) | refine g_b (fun x hx => ?_) | refine g_and ?_ | refine g_c ?_ | refine Both.mk ?_ ?_ | refine NilS.ts ?_ | refine LetE.now ?_ | refine AtD.now ?_ | refine LetC.now ?_ | refine g_some ?_ | refine g_yk ?_ | refine g_nk ?_ | refine g_y ?_ | refine g_f ?_ | refine AtA.mk' ?_ | refine Spl.pd (fun h => ?_) (fun h => ?_) | refine Spl.peq (fun h => ?_) (fun h => ?_) | refine Spl.pne (fun h => ?_) (fun h => ?_) | refine Spl.seq (fun h => ?_) (fun h => ?_) | refine Spl.sne (fun h => ?_) (fun h => ?_) | refine Spl.nt ?_ | refine Spl.mk (fun h => ?_) (fun h => ?_))))
          refine again (k + 1, R', m) ⟨hk, hst.symm, hm⟩ (by dsimp only; omega) (And.intro rfl (And.intro rfl (And.intro rfl (And.intro (it_eq (by dsimp only; omega)) trivial)))) (And.intro rfl (And.intro rfl (And.intro rfl trivial))) (rpA_ok ..)
        · have hty := stepR_yes (hT.2 ⟨hrf, hyk⟩)
          have hst := hsn.trans hty.1
          (repeat' ((conv => whnf); first | (with_reducible first | refine Spl.tt ?_ | refine Spl.ff ?_) | ((with_reducible refine atA_id ?_); first | refine AtA.eq (ldD_E hgI rfl rfl) ?_ | refine AtA.eq (ldX_R hx hr rfl rfl) ?_ | refine AtA.eq (ldX_I hx hy rfl rfl) ?_) | ((with_reducible refine callR_id ?_); refine CallR.mk ⟨[AV.d (.fp 209 (encX d I E R')), .dg 4 (encE e)], _, And.intro ⟨209, _, by with_unfolding_all exact rfl, Nat.le_refl _, x_len hx, hdr⟩ (And.intro (by with_unfolding_all exact rfl) trivial), hs, rfl, ?_⟩) | (with_reducible first | refine draw_auto ti_ok mixed (by decide +kernel) ?_ | refine g_i64 ?_ | refine g_u64 ?_ | refine g_u8 ?_ | refine g_iq ?_ | refine g_uq ?_ | refine g_rem ?_ | refine LetN.mk ?_ | refine g_hm ?_ | refine g_hb ?_ | refine g_lit ?_ | refine g_nm8 (fun x hx hu => ?_) | refine g_n8 (fun x hx hu => ?_) | refine g_b8 (fun x hx hu => ?_) | refine g_nm (fun x hx => ?_) | refine g_im (fun x hx => ?_) | refine g_n (fun x hx => ?_) | refine g_b (fun x hx => ?_) | refine g_and ?_ | refine g_c ?_ | refine Both.mk ?_ ?_ | refine NilS.ts ?_ | refine LetE.now ?_ | refine AtD.now ?_ | refine LetC.now ?_ | refine g_some ?_ | refine g_yk ?_ | refine g_nk ?_ | refine g_y ?_ | refine g_f ?_ | refine AtA.mk' ?_ | refine Spl.pd (fun h => ?_) (fun h => ?_) | refine Spl.peq (fun h => ?_) (fun h => ?_) | refine Spl.pne (fun h => ?_) (fun h => ?_) | refine Spl.seq (fun h => ?_) (fun h => ?_) | refine Spl.sne (fun h => ?_) (fun h => ?_) | refine Spl.nt ?_ | refine Spl.mk (fun h => ?_) (fun h => ?_))))
          have hmt : true = decide (cntR R < cntR (R'.set e.t.toNat true)) := by
            rw [eq_comm, decide_eq_true_eq, ← hty.1, hty.2]; omega
          refine again (k + 1, R'.set e.t.toNat true, true) ⟨hk, hst.symm, hmt⟩ (by dsimp only; omega) (And.intro rfl (And.intro rfl (And.intro rfl (And.intro (it_eq (by dsimp only; omega)) trivial)))) (And.intro (cells_eq rfl (stX_R hx (by omega) rfl rfl)) (And.intro rfl (And.intro rfl trivial))) (rpA_ok ..)
    · rw [decide_eq_false hsp] at hs
      have hno : ¬ turnsR (kdI I) R' e := fun q => hsp ⟨q.1, q.2.1, q.2.2.1⟩
      have hst := hsn.trans (stepR_no hno)
      (repeat' ((conv => whnf); first | (with_reducible first | refine Spl.tt ?_ | refine Spl.ff ?_) | ((with_reducible refine atA_id ?_); first | refine AtA.eq (ldD_E hgI rfl rfl) ?_) | ((with_reducible refine callR_id ?_); refine CallR.mk ⟨[AV.d (.fp 209 (encX d I E R')), .dg 4 (encE e)], _, And.intro ⟨209, _, by with_unfolding_all exact rfl, Nat.le_refl _, x_len hx, hdr⟩ (And.intro (by with_unfolding_all exact rfl) trivial), hs, rfl, ?_⟩) | (with_reducible first | refine draw_auto ti_ok mixed (by decide +kernel) ?_ | refine g_i64 ?_ | refine g_u64 ?_ | refine g_u8 ?_ | refine g_iq ?_ | refine g_uq ?_ | refine g_rem ?_ | refine LetN.mk ?_ | refine g_hm ?_ | refine g_hb ?_ | refine g_lit ?_ | refine g_nm8 (fun x hx hu => ?_) | refine g_n8 (fun x hx hu => ?_) | refine g_b8 (fun x hx hu => ?_) | refine g_nm (fun x hx => ?_) | refine g_im (fun x hx => ?_) | refine g_n (fun x hx => ?_) | refine g_b (fun x hx => ?_) | refine g_and ?_ | refine g_c ?_ | refine Both.mk ?_ ?_ | refine NilS.ts ?_ | refine LetE.now ?_ | refine AtD.now ?_ | refine LetC.now ?_ | refine g_some ?_ | refine g_yk ?_ | refine g_nk ?_ | refine g_y ?_ | refine g_f ?_ | refine AtA.mk' ?_ | refine Spl.pd (fun h => ?_) (fun h => ?_) | refine Spl.peq (fun h => ?_) (fun h => ?_) | refine Spl.pne (fun h => ?_) (fun h => ?_) | refine Spl.seq (fun h => ?_) (fun h => ?_) | refine Spl.sne (fun h => ?_) (fun h => ?_) | refine Spl.nt ?_ | refine Spl.mk (fun h => ?_) (fun h => ?_))))
      refine again (k + 1, R', m) ⟨hk, hst.symm, hm⟩ (by dsimp only; omega) (And.intro rfl (And.intro rfl (And.intro rfl (And.intro (it_eq (by dsimp only; omega)) trivial)))) (And.intro rfl (And.intro rfl (And.intro rfl trivial))) (rpA_ok ..)
  · have hk24 : E.take k = E := List.take_of_length_le (by rw [h.e]; omega)
    rw [hk24] at hRk
    (repeat' ((conv => whnf); first | (with_reducible first | refine Spl.tt ?_ | refine Spl.ff ?_) | (with_reducible first | refine draw_auto ti_ok mixed (by decide +kernel) ?_ | refine g_i64 ?_ | refine g_u64 ?_ | refine g_u8 ?_ | refine g_iq ?_ | refine g_uq ?_ | refine g_rem ?_ | refine LetN.mk ?_ | refine g_hm ?_ | refine g_hb ?_ | refine g_lit ?_ | refine g_nm8 (fun x hx hu => ?_) | refine g_n8 (fun x hx hu => ?_) | refine g_b8 (fun x hx hu => ?_) | refine g_nm (fun x hx => ?_) | refine g_im (fun x hx => ?_) | refine g_n (fun x hx => ?_) | refine g_b (fun x hx => ?_) | refine g_and ?_ | refine g_c ?_ | refine Both.mk ?_ ?_ | refine NilS.ts ?_ | refine LetE.now ?_ | refine AtD.now ?_ | refine LetC.now ?_ | refine g_some ?_ | refine g_yk ?_ | refine g_nk ?_ | refine g_y ?_ | refine g_f ?_ | refine AtA.mk' ?_ | refine Spl.pd (fun h => ?_) (fun h => ?_) | refine Spl.peq (fun h => ?_) (fun h => ?_) | refine Spl.pne (fun h => ?_) (fun h => ?_) | refine Spl.seq (fun h => ?_) (fun h => ?_) | refine Spl.sne (fun h => ?_) (fun h => ?_) | refine Spl.nt ?_ | refine Spl.mk (fun h => ?_) (fun h => ?_))))
    refine ⟨⟨[(2, .d (.bl m))], [(0, .cells 209 ((encX d I E R').map .d)), (1, .frame 2 [(0, .ptr 0 0)]), (2, .tag 0 T)], 3⟩, Wk.en ⟨And.intro rfl trivial, And.intro rfl (And.intro rfl (And.intro rfl trivial)), ?_⟩, ?_, ?_, rfl, rfl⟩
    · simp only [S.ok, List.all_cons, List.all_nil, Ob.lt, all_d]; rfl
    · show AV.d (.bl m) = .d (.bl (decide (cntR R < cntR (passR (kdI I) E R))))
      rw [hm, hRk]
    · show some (Ob.cells 209 ((encX d I E R').map .d)) = _
      rw [hRk]
end Go.Proofs.YtenomegafkileaaGreatDoor

/- What the checker reads. Conditions: none. -/
namespace Go.Proofs.YtenomegafkileaaGreatDoor
open Go.Sy
set_option maxRecDepth 100000
set_option linter.all false
def xI (f : Int → List UInt8) (n : Nat) : List Ino := (List.range 16).map fun i : Nat => if i < n then inoAt f (i : Nat) else ino0
def xE (f : Int → List UInt8) (n : Nat) : List Ent := (List.range 24).map fun i : Nat => if i < n then entAt f (i : Nat) else ent0
theorem xI_len (f : Int → List UInt8) (n : Nat) : (xI f n).length = 16 := by unfold xI; rw [List.length_map, List.length_range]
theorem xE_len (f : Int → List UInt8) (n : Nat) : (xE f n).length = 24 := by unfold xE; rw [List.length_map, List.length_range]
theorem xI_get (f : Int → List UInt8) (n i : Nat) (h : i < (xI f n).length) : (xI f n)[i] = if i < n then inoAt f (i : Nat) else ino0 := by simp [xI]
theorem xI_set (f : Int → List UInt8) {n : Nat} (h : n < 16) : (xI f n).set n (inoAt f (n : Nat)) = xI f (n + 1) := by
  refine List.ext_getElem (by rw [List.length_set, xI_len, xI_len]) fun i h1 h2 => ?_
  rw [List.getElem_set, xI_get, xI_get]
  by_cases hi : n = i
  · subst hi; rw [if_pos rfl, if_pos (by omega)]
  · rw [if_neg hi]
    by_cases h3 : i < n
    · rw [if_pos h3, if_pos (by omega)]
    · rw [if_neg h3, if_neg (by omega)]
theorem xE_get (f : Int → List UInt8) (n i : Nat) (h : i < (xE f n).length) : (xE f n)[i] = if i < n then entAt f (i : Nat) else ent0 := by simp [xE]
theorem xE_set (f : Int → List UInt8) {n : Nat} (h : n < 24) : (xE f n).set n (entAt f (n : Nat)) = xE f (n + 1) := by
  refine List.ext_getElem (by rw [List.length_set, xE_len, xE_len]) fun i h1 h2 => ?_
  rw [List.getElem_set, xE_get, xE_get]
  by_cases hi : n = i
  · subst hi; rw [if_pos rfl, if_pos (by omega)]
  · rw [if_neg hi]
    by_cases h3 : i < n
    · rw [if_pos h3, if_pos (by omega)]
    · rw [if_neg h3, if_neg (by omega)]
theorem entAt_RE (f : Int → List UInt8) (k : Int) : RE (entAt f k) := by
  unfold entAt
  split
  · unfold entOf
    split
    · rename_i h; exact h.1
    · exact .inl ⟨rfl, rfl, rfl, rfl⟩
  · exact .inl ⟨rfl, rfl, rfl, rfl⟩
theorem xok_L (f : Int → List UInt8) (n k : Nat) {R : List Bool} (hR : R.length = 16) : XOK (xI f n) (xE f k) R := by
  refine ⟨xI_len f n, xE_len f k, hR, fun x hx hu => ?_⟩
  obtain ⟨i, _, rfl⟩ := List.mem_map.1 hx
  have hx' : RE (if i < k then entAt f (i : Nat) else ent0) := by
    split
    · exact entAt_RE f i
    · exact .inl ⟨rfl, rfl, rfl, rfl⟩
  rcases hx' with h | h
  · rw [hu] at h; cases h.1
  · exact ⟨h.2.1, h.2.2.1, h.2.2.2.1, h.2.2.2.2.1⟩
theorem stX_I {d : Option Dk} {I : List Ino} {E : List Ent} {R : List Bool} (h : XOK I E R) {n : Nat} (hn : n < 16) {y : Ino} {i j : Nat} (hi : i = 1 + n * 6) (hj : j = i + 6) :
    ((encX d I E R).map AV.d).take i ++ (encI y).map AV.d ++ ((encX d I E R).map AV.d).drop j = (encX d (I.set n y) E R).map AV.d := by
  have e := fm_setM encI_len [encD d] (E.flatMap encE ++ R.flatMap fun b => [D.bl b]) I n y (by rw [h.i]; exact hn) (a := i) (b := j) (by simpa using hi) hj
  rw [← List.map_take, ← List.map_drop]
  have e' : (encX d I E R).take i ++ encI y ++ (encX d I E R).drop j = encX d (I.set n y) E R := by
    unfold encX
    rw [List.append_assoc ([encD d] ++ I.flatMap encI), List.append_assoc ([encD d] ++ (I.set n y).flatMap encI)]
    exact e
  rw [← e', List.map_append, List.map_append]
theorem stX_E {d : Option Dk} {I : List Ino} {E : List Ent} {R : List Bool} (h : XOK I E R) {n : Nat} (hn : n < 24) {y : Ent} {i j : Nat} (hi : i = 97 + n * 4) (hj : j = i + 4) :
    ((encX d I E R).map AV.d).take i ++ (encE y).map AV.d ++ ((encX d I E R).map AV.d).drop j = (encX d I (E.set n y) R).map AV.d := by
  have e := fm_setM encE_len ([encD d] ++ I.flatMap encI) (R.flatMap fun b => [D.bl b]) E n y (by rw [h.e]; exact hn) (a := i) (b := j) (by simp [fm_len encI_len, h.i]; omega) hj
  rw [← List.map_take, ← List.map_drop]
  have e' : (encX d I E R).take i ++ encE y ++ (encX d I E R).drop j = encX d I (E.set n y) R := e
  rw [← e', List.map_append, List.map_append]
def rdA (d : Option Dk) (s : Nat) (k : Nat) (I : List Ino) (E : List Ent) (R : List Bool) : S :=
  ⟨[(0, .d (encD d)), (3, .ptr 0 0), (s, .d (.it .i64 (k : Nat)))], [(0, .cells 209 ((encX d I E R).map .d))], 1⟩
theorem rdA_ok (d : Option Dk) (s : Nat) (k : Nat) (I : List Ino) (E : List Ent) (R : List Bool) : (rdA d s k I E R).ok = true := by
  unfold rdA
  simp only [S.ok, List.all_cons, List.all_nil, Ob.lt, all_d]; rfl
def rdI (f : Int → List UInt8) (x : Nat × List Ino) : Prop := x.1 ≤ 16 ∧ x.2 = xI f x.1
def rdE' (f : Int → List UInt8) (x : Nat × List Ent) : Prop := x.1 ≤ 24 ∧ x.2 = xE f x.1
theorem passR_fix (kd : Int → Int) : ∀ (E : List Ent) (R : List Bool), ¬ cntR R < cntR (passR kd E R) → passR kd E R = R
  | [], R, _ => rfl
  | x :: E, R, h => by
    have h1 : passR kd (x :: E) R = passR kd E (stepR kd R x) := rfl
    rw [h1] at h ⊢
    have h2 := passR_cnt kd E (stepR kd R x)
    by_cases ht : turnsR kd R x
    · have := (stepR_yes ht).2; omega
    · rw [stepR_no ht] at h ⊢
      exact passR_fix kd E R h
def rcI (kd : Int → Int) (E : List Ent) (x : Nat × List Bool) : Prop := x.2 = iterR kd E x.1 R0 ∧ x.1 + 1 ≤ cntR x.2 ∧ x.2.length = 16
def rcA (d : Option Dk) (I : List Ino) (E : List Ent) (R : List Bool) : S := ⟨[(0, .d (encD d)), (3, .ptr 0 0)], [(0, .cells 209 ((encX d I E R).map .d))], 1⟩
theorem rcA_ok (d : Option Dk) (I : List Ino) (E : List Ent) (R : List Bool) : (rcA d I E R).ok = true := by
  unfold rcA
  simp only [S.ok, List.all_cons, List.all_nil, Ob.lt, all_d]; rfl
def F16 : List Bool := List.replicate 16 false
set_option maxHeartbeats 8000000 in
theorem xread_ok (d : Option Dk) (hd : DkOK d) : FnC Tryz.prog 17 [.d (encD d)] (.d (.fp 209 (encX d (xI (rdS d) 16) (xE (rdS d) 24) (reachR (kdI (xI (rdS d) 16)) (xE (rdS d) 24))))) := by
  have hi := fun n => inode_ok d hd n
  have he := fun n => entry_ok d hd n
  refine FnC.intro ti_ok Tryz.func17 rfl Tryz.ntmps17 Tryz.call17 rfl (Nat.le_of_ble_eq_true rfl) rfl ?_
  (repeat' ((conv => whnf); first | (with_reducible first | refine Spl.tt ?_ | refine Spl.ff ?_) | (with_reducible first | refine draw_auto ti_ok mixed (by decide +kernel) ?_ | refine g_i64 ?_ | refine g_u64 ?_ | refine g_u8 ?_ | refine g_iq ?_ | refine g_uq ?_ | refine g_rem ?_ | refine LetN.mk ?_ | refine g_hm ?_ | refine g_hb ?_ | refine g_lit ?_ | refine g_nm8 (fun x hx hu => ?_) | refine g_n8 (fun x hx hu => ?_) | refine g_b8 (fun x hx hu => ?_) | refine g_nm (fun x hx => ?_) | refine g_im (fun x hx => ?_) | refine g_n (fun x hx => ?_) | refine g_b (fun x hx => ?_) | refine g_and ?_ | refine g_c ?_ | refine Both.mk ?_ ?_ | refine NilS.ts ?_ | refine LetE.now ?_ | refine AtD.now ?_ | refine LetC.now ?_ | refine g_some ?_ | refine g_yk ?_ | refine g_nk ?_ | refine g_y ?_ | refine g_f ?_ | refine AtA.mk' ?_ | refine Spl.pd (fun h => ?_) (fun h => ?_) | refine Spl.peq (fun h => ?_) (fun h => ?_) | refine Spl.pne (fun h => ?_) (fun h => ?_) | refine Spl.seq (fun h => ?_) (fun h => ?_) | refine Spl.sne (fun h => ?_) (fun h => ?_) | refine Spl.nt ?_ | refine Spl.mk (fun h => ?_) (fun h => ?_))))
  conv => whnf
  refine loop_rule ti_ok (rdI (rdS d)) (fun x => rdA d 9 x.1 x.2 (xE (rdS d) 0) F16) (fun x => 16 - x.1) (0, xI (rdS d) 0) ⟨Nat.zero_le _, rfl⟩ ⟨And.intro rfl (And.intro rfl (And.intro rfl trivial)), And.intro (cells_eq rfl (by with_unfolding_all exact rfl)) trivial, rdA_ok ..⟩ ?_
  intro ⟨k, L⟩ hk0
  have hkl := hk0.1
  have hL := hk0.2
  dsimp only at hkl hL
  by_cases hk : k < 16
  · have hX := xok_L (rdS d) k 0 (R := F16) rfl
    rw [← hL] at hX
    have hik := hi (k : Nat)
    have hset := xI_set (rdS d) hk
    rw [← hL] at hset
    (repeat' ((conv => whnf); first | (with_reducible first | refine Spl.tt ?_ | refine Spl.ff ?_) | ((with_reducible refine callE_id ?_); (refine CallE.con ⟨_, hik, ?_⟩)) | refine CallP.mk ⟨_, hik, ?_⟩ | (with_reducible first | refine draw_auto ti_ok mixed (by decide +kernel) ?_ | refine g_i64 ?_ | refine g_u64 ?_ | refine g_u8 ?_ | refine g_iq ?_ | refine g_uq ?_ | refine g_rem ?_ | refine LetN.mk ?_ | refine g_hm ?_ | refine g_hb ?_ | refine g_lit ?_ | refine g_nm8 (fun x hx hu => ?_) | refine g_n8 (fun x hx hu => ?_) | refine g_b8 (fun x hx hu => ?_) | refine g_nm (fun x hx => ?_) | refine g_im (fun x hx => ?_) | refine g_n (fun x hx => ?_) | refine g_b (fun x hx => ?_) | refine g_and ?_ | refine g_c ?_ | refine Both.mk ?_ ?_ | refine NilS.ts ?_ | refine LetE.now ?_ | refine AtD.now ?_ | refine LetC.now ?_ | refine g_some ?_ | refine g_yk ?_ | refine g_nk ?_ | refine g_y ?_ | refine g_f ?_ | refine AtA.mk' ?_ | refine Spl.pd (fun h => ?_) (fun h => ?_) | refine Spl.peq (fun h => ?_) (fun h => ?_) | refine Spl.pne (fun h => ?_) (fun h => ?_) | refine Spl.seq (fun h => ?_) (fun h => ?_) | refine Spl.sne (fun h => ?_) (fun h => ?_) | refine Spl.nt ?_ | refine Spl.mk (fun h => ?_) (fun h => ?_))))
    refine again (k + 1, L.set k (inoAt (rdS d) (k : Nat))) ⟨hk, hset⟩ (by dsimp only; omega) (And.intro rfl (And.intro rfl (And.intro (it_eq (by dsimp only; omega)) trivial))) (And.intro (cells_eq rfl (stX_I hX hk rfl rfl)) trivial) (rdA_ok ..)
  · have hk16 : k = 16 := by omega
    rw [hk16] at hL
    (repeat' ((conv => whnf); first | (with_reducible first | refine Spl.tt ?_ | refine Spl.ff ?_) | (with_reducible first | refine draw_auto ti_ok mixed (by decide +kernel) ?_ | refine g_i64 ?_ | refine g_u64 ?_ | refine g_u8 ?_ | refine g_iq ?_ | refine g_uq ?_ | refine g_rem ?_ | refine LetN.mk ?_ | refine g_hm ?_ | refine g_hb ?_ | refine g_lit ?_ | refine g_nm8 (fun x hx hu => ?_) | refine g_n8 (fun x hx hu => ?_) | refine g_b8 (fun x hx hu => ?_) | refine g_nm (fun x hx => ?_) | refine g_im (fun x hx => ?_) | refine g_n (fun x hx => ?_) | refine g_b (fun x hx => ?_) | refine g_and ?_ | refine g_c ?_ | refine Both.mk ?_ ?_ | refine NilS.ts ?_ | refine LetE.now ?_ | refine AtD.now ?_ | refine LetC.now ?_ | refine g_some ?_ | refine g_yk ?_ | refine g_nk ?_ | refine g_y ?_ | refine g_f ?_ | refine AtA.mk' ?_ | refine Spl.pd (fun h => ?_) (fun h => ?_) | refine Spl.peq (fun h => ?_) (fun h => ?_) | refine Spl.pne (fun h => ?_) (fun h => ?_) | refine Spl.seq (fun h => ?_) (fun h => ?_) | refine Spl.sne (fun h => ?_) (fun h => ?_) | refine Spl.nt ?_ | refine Spl.mk (fun h => ?_) (fun h => ?_))))
    conv => whnf
    refine loop_rule ti_ok (rdE' (rdS d)) (fun x => rdA d 21 x.1 L x.2 F16) (fun x => 24 - x.1) (0, xE (rdS d) 0) ⟨Nat.zero_le _, rfl⟩ ⟨And.intro rfl (And.intro rfl (And.intro rfl trivial)), And.intro rfl trivial, rdA_ok ..⟩ ?_
    intro ⟨k2, M⟩ hk1
    have hk2l := hk1.1
    have hM := hk1.2
    dsimp only at hk2l hM
    have hX := xok_L (rdS d) 16 k2 (R := F16) rfl
    rw [← hL, ← hM] at hX
    by_cases hk2 : k2 < 24
    · have hek := he (k2 : Nat)
      have hset := xE_set (rdS d) hk2
      rw [← hM] at hset
      (repeat' ((conv => whnf); first | (with_reducible first | refine Spl.tt ?_ | refine Spl.ff ?_) | ((with_reducible refine callE_id ?_); (refine CallE.con ⟨_, hek, ?_⟩)) | refine CallP.mk ⟨_, hek, ?_⟩ | (with_reducible first | refine draw_auto ti_ok mixed (by decide +kernel) ?_ | refine g_i64 ?_ | refine g_u64 ?_ | refine g_u8 ?_ | refine g_iq ?_ | refine g_uq ?_ | refine g_rem ?_ | refine LetN.mk ?_ | refine g_hm ?_ | refine g_hb ?_ | refine g_lit ?_ | refine g_nm8 (fun x hx hu => ?_) | refine g_n8 (fun x hx hu => ?_) | refine g_b8 (fun x hx hu => ?_) | refine g_nm (fun x hx => ?_) | refine g_im (fun x hx => ?_) | refine g_n (fun x hx => ?_) | refine g_b (fun x hx => ?_) | refine g_and ?_ | refine g_c ?_ | refine Both.mk ?_ ?_ | refine NilS.ts ?_ | refine LetE.now ?_ | refine AtD.now ?_ | refine LetC.now ?_ | refine g_some ?_ | refine g_yk ?_ | refine g_nk ?_ | refine g_y ?_ | refine g_f ?_ | refine AtA.mk' ?_ | refine Spl.pd (fun h => ?_) (fun h => ?_) | refine Spl.peq (fun h => ?_) (fun h => ?_) | refine Spl.pne (fun h => ?_) (fun h => ?_) | refine Spl.seq (fun h => ?_) (fun h => ?_) | refine Spl.sne (fun h => ?_) (fun h => ?_) | refine Spl.nt ?_ | refine Spl.mk (fun h => ?_) (fun h => ?_))))
      refine again (k2 + 1, M.set k2 (entAt (rdS d) (k2 : Nat))) ⟨hk2, hset⟩ (by dsimp only; omega) (And.intro rfl (And.intro rfl (And.intro (it_eq (by dsimp only; omega)) trivial))) (And.intro (cells_eq rfl (stX_E hX hk2 rfl rfl)) trivial) (rdA_ok ..)
    · have hk24 : k2 = 24 := by omega
      rw [hk24] at hM
      (repeat' ((conv => whnf); first | (with_reducible first | refine Spl.tt ?_ | refine Spl.ff ?_) | (with_reducible first | refine draw_auto ti_ok mixed (by decide +kernel) ?_ | refine g_i64 ?_ | refine g_u64 ?_ | refine g_u8 ?_ | refine g_iq ?_ | refine g_uq ?_ | refine g_rem ?_ | refine LetN.mk ?_ | refine g_hm ?_ | refine g_hb ?_ | refine g_lit ?_ | refine g_nm8 (fun x hx hu => ?_) | refine g_n8 (fun x hx hu => ?_) | refine g_b8 (fun x hx hu => ?_) | refine g_nm (fun x hx => ?_) | refine g_im (fun x hx => ?_) | refine g_n (fun x hx => ?_) | refine g_b (fun x hx => ?_) | refine g_and ?_ | refine g_c ?_ | refine Both.mk ?_ ?_ | refine NilS.ts ?_ | refine LetE.now ?_ | refine AtD.now ?_ | refine LetC.now ?_ | refine g_some ?_ | refine g_yk ?_ | refine g_nk ?_ | refine g_y ?_ | refine g_f ?_ | refine AtA.mk' ?_ | refine Spl.pd (fun h => ?_) (fun h => ?_) | refine Spl.peq (fun h => ?_) (fun h => ?_) | refine Spl.pne (fun h => ?_) (fun h => ?_) | refine Spl.seq (fun h => ?_) (fun h => ?_) | refine Spl.sne (fun h => ?_) (fun h => ?_) | refine Spl.nt ?_ | refine Spl.mk (fun h => ?_) (fun h => ?_))))
      conv => whnf
      refine loop_rule ti_ok (rcI (kdI L) M) (fun x => rcA d L M x.2) (fun x => 16 - x.1) (0, R0) ⟨rfl, by decide, rfl⟩ ⟨And.intro rfl (And.intro rfl trivial), And.intro (cells_eq rfl (stX_R (n := 0) hX (by decide) rfl rfl)) trivial, rcA_ok ..⟩ ?_
      intro ⟨j, R⟩ hj0
      have hj := hj0.1
      have hjc := hj0.2.1
      have hjl := hj0.2.2
      dsimp only at hj hjc hjl
      have hY : XOK L M R := ⟨hX.i, hX.e, hjl, hX.p⟩
      have hr := reach_ok (d := d) hY
      have hle := cntR_le R
      rw [hjl] at hle
      by_cases hm : cntR R < cntR (passR (kdI L) M R)
      · rw [decide_eq_true hm] at hr
        (repeat' ((conv => whnf); first | (with_reducible first | refine Spl.tt ?_ | refine Spl.ff ?_) | ((with_reducible refine callI_id ?_); refine CallI.byM hr (by with_unfolding_all exact rfl) rfl ?_) | (with_reducible first | refine draw_auto ti_ok mixed (by decide +kernel) ?_ | refine g_i64 ?_ | refine g_u64 ?_ | refine g_u8 ?_ | refine g_iq ?_ | refine g_uq ?_ | refine g_rem ?_ | refine LetN.mk ?_ | refine g_hm ?_ | refine g_hb ?_ | refine g_lit ?_ | refine g_nm8 (fun x hx hu => ?_) | refine g_n8 (fun x hx hu => ?_) | refine g_b8 (fun x hx hu => ?_) | refine g_nm (fun x hx => ?_) | refine g_im (fun x hx => ?_) | refine g_n (fun x hx => ?_) | refine g_b (fun x hx => ?_) | refine g_and ?_ | refine g_c ?_ | refine Both.mk ?_ ?_ | refine NilS.ts ?_ | refine LetE.now ?_ | refine AtD.now ?_ | refine LetC.now ?_ | refine g_some ?_ | refine g_yk ?_ | refine g_nk ?_ | refine g_y ?_ | refine g_f ?_ | refine AtA.mk' ?_ | refine Spl.pd (fun h => ?_) (fun h => ?_) | refine Spl.peq (fun h => ?_) (fun h => ?_) | refine Spl.pne (fun h => ?_) (fun h => ?_) | refine Spl.seq (fun h => ?_) (fun h => ?_) | refine Spl.sne (fun h => ?_) (fun h => ?_) | refine Spl.nt ?_ | refine Spl.mk (fun h => ?_) (fun h => ?_))))
        refine again (j + 1, passR (kdI L) M R) ⟨?_, by dsimp only; omega, by dsimp only; rw [passR_len]; exact hjl⟩ (by dsimp only; omega) (And.intro rfl (And.intro rfl trivial)) (And.intro rfl trivial) (rcA_ok ..)
        show passR (kdI L) M R = iterR (kdI L) M (j + 1) R0
        rw [iterR_add, ← hj]; rfl
      · rw [decide_eq_false hm] at hr
        have hfix := passR_fix (kdI L) M R hm
        have hre := reach_at (kdI L) M (j := j) (by omega) (by rw [← hj]; exact hfix)
        rw [← hj] at hre
        (repeat' ((conv => whnf); first | (with_reducible first | refine Spl.tt ?_ | refine Spl.ff ?_) | ((with_reducible refine callI_id ?_); refine CallI.byM hr (by with_unfolding_all exact rfl) rfl ?_) | (with_reducible first | refine draw_auto ti_ok mixed (by decide +kernel) ?_ | refine g_i64 ?_ | refine g_u64 ?_ | refine g_u8 ?_ | refine g_iq ?_ | refine g_uq ?_ | refine g_rem ?_ | refine LetN.mk ?_ | refine g_hm ?_ | refine g_hb ?_ | refine g_lit ?_ | refine g_nm8 (fun x hx hu => ?_) | refine g_n8 (fun x hx hu => ?_) | refine g_b8 (fun x hx hu => ?_) | refine g_nm (fun x hx => ?_) | refine g_im (fun x hx => ?_) | refine g_n (fun x hx => ?_) | refine g_b (fun x hx => ?_) | refine g_and ?_ | refine g_c ?_ | refine Both.mk ?_ ?_ | refine NilS.ts ?_ | refine LetE.now ?_ | refine AtD.now ?_ | refine LetC.now ?_ | refine g_some ?_ | refine g_yk ?_ | refine g_nk ?_ | refine g_y ?_ | refine g_f ?_ | refine AtA.mk' ?_ | refine Spl.pd (fun h => ?_) (fun h => ?_) | refine Spl.peq (fun h => ?_) (fun h => ?_) | refine Spl.pne (fun h => ?_) (fun h => ?_) | refine Spl.seq (fun h => ?_) (fun h => ?_) | refine Spl.sne (fun h => ?_) (fun h => ?_) | refine Spl.nt ?_ | refine Spl.mk (fun h => ?_) (fun h => ?_))))
        refine ⟨encX d L M (passR (kdI L) M R), ⟨Nat.zero_le _, rfl⟩, ?_⟩
        show AV.d (.fp (209 - 0) _) = _
        rw [hfix, hre, hL, hM]
end Go.Proofs.YtenomegafkileaaGreatDoor

/- Odd sectors; how many own a block. Conditions: none. -/
namespace Go.Proofs.YtenomegafkileaaGreatDoor
open Go.Sy
set_option maxRecDepth 100000
set_option linter.all false
def oddP (d : Option Dk) (k : Int) : Prop := hasP d (17 + k) ∧ entOk (rdS d (17 + k)) = false
instance (d : Option Dk) (k : Int) : Decidable (oddP d k) := by unfold oddP; infer_instance
set_option maxHeartbeats 4000000 in
theorem odd_ok {d : Option Dk} (hd : DkOK d) (I : List Ino) (E : List Ent) (R : List Bool) (k : Int) (hk : 0 ≤ k ∧ k < 24) : FnC Tryz.prog 44 [.d (.fp 209 (encX d I E R)), .d (.it .i64 k)] (.d (.bl (decide (oddP d k)))) := by
  have hr := read_ok d hd (17 + k)
  have hs := rdS_len hd (17 + k)
  have he := entOf_ok (rdS d (17 + k)) hs
  unfold entOfV at he
  have h0 : (encX d I E R).drop 0 = encX d I E R := rfl
  have hld : ∀ {ty : Ty}, ty.kd.agg = false → ldD ty (encX d I E R) = .d (encD d) := fun {ty} ha => by unfold ldD; rw [ha]; rfl
  by_cases hh : hasP d (17 + k)
  · rw [show rdE d (17 + k) = 0 from if_pos hh] at hr
    refine FnC.intro ti_ok Tryz.func44 rfl Tryz.ntmps44 Tryz.call44 rfl (Nat.le_of_ble_eq_true rfl) rfl ?_
    (repeat' ((conv => whnf); first | (with_reducible first | refine Spl.tt ?_ | refine Spl.ff ?_) | ((with_reducible refine callE_id ?_); first | (refine CallE.con ⟨_, hr, ?_⟩) | (refine CallE.con ⟨_, he, ?_⟩)) | ((with_reducible refine atD_id ?_); refine AtD.eq h0 ?_) | ((with_reducible refine atA_id ?_); first | refine AtA.eq (hld rfl) ?_ | refine AtA.eq (ld_sec rfl rfl hs) ?_) | ((with_reducible refine letC_id ?_); refine LetC.mk ((encS (rdS d (17 + k))).map AV.d) (st_all _) ?_) | (with_reducible first | refine draw_auto ti_ok mixed (by decide +kernel) ?_ | refine g_i64 ?_ | refine g_u64 ?_ | refine g_u8 ?_ | refine g_iq ?_ | refine g_uq ?_ | refine g_rem ?_ | refine LetN.mk ?_ | refine g_hm ?_ | refine g_hb ?_ | refine g_lit ?_ | refine g_nm8 (fun x hx hu => ?_) | refine g_n8 (fun x hx hu => ?_) | refine g_b8 (fun x hx hu => ?_) | refine g_nm (fun x hx => ?_) | refine g_im (fun x hx => ?_) | refine g_n (fun x hx => ?_) | refine g_b (fun x hx => ?_) | refine g_and ?_ | refine g_c ?_ | refine Both.mk ?_ ?_ | refine NilS.ts ?_ | refine LetE.now ?_ | refine AtD.now ?_ | refine LetC.now ?_ | refine g_some ?_ | refine g_yk ?_ | refine g_nk ?_ | refine g_y ?_ | refine g_f ?_ | refine AtA.mk' ?_ | refine Spl.pd (fun h => ?_) (fun h => ?_) | refine Spl.peq (fun h => ?_) (fun h => ?_) | refine Spl.pne (fun h => ?_) (fun h => ?_) | refine Spl.seq (fun h => ?_) (fun h => ?_) | refine Spl.sne (fun h => ?_) (fun h => ?_) | refine Spl.nt ?_ | refine Spl.mk (fun h => ?_) (fun h => ?_))))
    refine bl_of ?_
    unfold oddP
    simp [hh]
  · rw [show rdE d (17 + k) = 1 from if_neg hh] at hr
    refine FnC.intro ti_ok Tryz.func44 rfl Tryz.ntmps44 Tryz.call44 rfl (Nat.le_of_ble_eq_true rfl) rfl ?_
    (repeat' ((conv => whnf); first | (with_reducible first | refine Spl.tt ?_ | refine Spl.ff ?_) | ((with_reducible refine callE_id ?_); first | (refine CallE.con ⟨_, hr, ?_⟩) | (refine CallE.con ⟨_, he, ?_⟩)) | ((with_reducible refine atD_id ?_); refine AtD.eq h0 ?_) | ((with_reducible refine atA_id ?_); first | refine AtA.eq (hld rfl) ?_ | refine AtA.eq (ld_sec rfl rfl hs) ?_) | ((with_reducible refine letC_id ?_); refine LetC.mk ((encS (rdS d (17 + k))).map AV.d) (st_all _) ?_) | (with_reducible first | refine draw_auto ti_ok mixed (by decide +kernel) ?_ | refine g_i64 ?_ | refine g_u64 ?_ | refine g_u8 ?_ | refine g_iq ?_ | refine g_uq ?_ | refine g_rem ?_ | refine LetN.mk ?_ | refine g_hm ?_ | refine g_hb ?_ | refine g_lit ?_ | refine g_nm8 (fun x hx hu => ?_) | refine g_n8 (fun x hx hu => ?_) | refine g_b8 (fun x hx hu => ?_) | refine g_nm (fun x hx => ?_) | refine g_im (fun x hx => ?_) | refine g_n (fun x hx => ?_) | refine g_b (fun x hx => ?_) | refine g_and ?_ | refine g_c ?_ | refine Both.mk ?_ ?_ | refine NilS.ts ?_ | refine LetE.now ?_ | refine AtD.now ?_ | refine LetC.now ?_ | refine g_some ?_ | refine g_yk ?_ | refine g_nk ?_ | refine g_y ?_ | refine g_f ?_ | refine AtA.mk' ?_ | refine Spl.pd (fun h => ?_) (fun h => ?_) | refine Spl.peq (fun h => ?_) (fun h => ?_) | refine Spl.pne (fun h => ?_) (fun h => ?_) | refine Spl.seq (fun h => ?_) (fun h => ?_) | refine Spl.sne (fun h => ?_) (fun h => ?_) | refine Spl.nt ?_ | refine Spl.mk (fun h => ?_) (fun h => ?_))))
    exact bl_ff (fun q => hh q.1)
def ownK (ino : Nat → Ino) (tk : Nat → Bool) (b : Int) (k : Nat) : Nat := ((List.range k).filter fun i => decide ((ino i).k = 1 ∧ b ∈ blks (ino i)) && tk i).length
theorem ownK_yes {ino : Nat → Ino} {tk : Nat → Bool} {b : Int} {k : Nat} (h1 : (ino k).k = 1 ∧ b ∈ blks (ino k)) (h2 : tk k = true) : ownK ino tk b (k + 1) = ownK ino tk b k + 1 := by
  unfold ownK
  rw [List.range_succ, List.filter_append, List.length_append]
  simp [h1, h2]
theorem ownK_no {ino : Nat → Ino} {tk : Nat → Bool} {b : Int} {k : Nat} (h : ¬ (((ino k).k = 1 ∧ b ∈ blks (ino k)) ∧ tk k = true)) : ownK ino tk b (k + 1) = ownK ino tk b k := by
  unfold ownK
  rw [List.range_succ, List.filter_append, List.length_append]
  have : (decide ((ino k).k = 1 ∧ b ∈ blks (ino k)) && tk k) = false := by
    rw [Bool.and_eq_false_iff]
    by_cases h1 : (ino k).k = 1 ∧ b ∈ blks (ino k)
    · right
      cases h2 : tk k with
      | true => exact (h ⟨h1, h2⟩).elim
      | false => rfl
    · left; exact decide_eq_false h1
  have e : [k].filter (fun i => decide ((ino i).k = 1 ∧ b ∈ blks (ino i)) && tk i) = [] := by simp only [List.filter, this]
  rw [e]; rfl
theorem ownK_le (ino : Nat → Ino) (tk : Nat → Bool) (b : Int) (k : Nat) : ownK ino tk b k ≤ k := by
  unfold ownK
  exact Nat.le_trans (List.length_filter_le _ _) (by rw [List.length_range]; exact Nat.le_refl _)
theorem ldD_I96 {I : List Ino} {E : List Ent} {R : List Bool} (h : XOK I E R) {ty : Ty} (ha : ty.kd.agg = true) (hz : ty.size = 96) : ldD ty (I.flatMap encI ++ E.flatMap encE ++ R.flatMap fun b => [D.bl b]) = .dg 96 (I.flatMap encI) := by
  unfold ldD
  rw [ha, cond_true, hz, List.append_assoc, List.take_left' (by rw [fm_len encI_len, h.i])]
theorem ldD_I6 {I : List Ino} {n : Int} {x : Ino} (hx : I[n.toNat]? = some x) {ty : Ty} (ha : ty.kd.agg = true) (hz : ty.size = 6) : ldD ty ((I.flatMap encI).drop (n.toNat * 6)) = .dg 6 (encI x) := by
  unfold ldD
  rw [ha, cond_true, hz]
  have := fm_at encI_len [] [] I n.toNat x hx
  have e : ((I.flatMap encI).drop (n.toNat * 6)).take 6 = encI x := by simpa using this
  rw [e]
set_option maxHeartbeats 8000000 in
theorem own_ok {d : Option Dk} (hd : DkOK d) {I : List Ino} {E : List Ent} {R : List Bool} (h : XOK I E R) (b : Int) : FnC Tryz.prog 35 [.d (.fp 209 (encX d I E R)), .d (.it .i64 b)] (.d (.it .i64 (ownK (fun i => I.getD i ino0) (fun i => decide (takP (rdS d) (i : Nat))) b 16 : Nat))) := by
  have h0 : (encX d I E R).drop 0 = encX d I E R := rfl
  have h1 : (encX d I E R).drop 1 = I.flatMap encI ++ E.flatMap encE ++ R.flatMap fun b => [D.bl b] := rfl
  have hld : ∀ {ty : Ty}, ty.kd.agg = false → ldD ty (encX d I E R) = .d (encD d) := fun {ty} ha => by unfold ldD; rw [ha]; rfl
  have ht := fun n => taken_ok d hd n
  refine FnC.intro ti_ok Tryz.func35 rfl Tryz.ntmps35 Tryz.call35 rfl (Nat.le_of_ble_eq_true rfl) rfl ?_
  (repeat' ((conv => whnf); first | (with_reducible first | refine Spl.tt ?_ | refine Spl.ff ?_) | ((with_reducible refine atD_id ?_); refine AtD.eq h1 ?_) | ((with_reducible refine atA_id ?_); refine AtA.eq (ldD_I96 h rfl rfl) ?_) | (with_reducible first | refine draw_auto ti_ok mixed (by decide +kernel) ?_ | refine g_i64 ?_ | refine g_u64 ?_ | refine g_u8 ?_ | refine g_iq ?_ | refine g_uq ?_ | refine g_rem ?_ | refine LetN.mk ?_ | refine g_hm ?_ | refine g_hb ?_ | refine g_lit ?_ | refine g_nm8 (fun x hx hu => ?_) | refine g_n8 (fun x hx hu => ?_) | refine g_b8 (fun x hx hu => ?_) | refine g_nm (fun x hx => ?_) | refine g_im (fun x hx => ?_) | refine g_n (fun x hx => ?_) | refine g_b (fun x hx => ?_) | refine g_and ?_ | refine g_c ?_ | refine Both.mk ?_ ?_ | refine NilS.ts ?_ | refine LetE.now ?_ | refine AtD.now ?_ | refine LetC.now ?_ | refine g_some ?_ | refine g_yk ?_ | refine g_nk ?_ | refine g_y ?_ | refine g_f ?_ | refine AtA.mk' ?_ | refine Spl.pd (fun h => ?_) (fun h => ?_) | refine Spl.peq (fun h => ?_) (fun h => ?_) | refine Spl.pne (fun h => ?_) (fun h => ?_) | refine Spl.seq (fun h => ?_) (fun h => ?_) | refine Spl.sne (fun h => ?_) (fun h => ?_) | refine Spl.nt ?_ | refine Spl.mk (fun h => ?_) (fun h => ?_))))
  conv => whnf
  refine loop_rule ti_ok (fun x : Nat × Nat => x.1 ≤ 16 ∧ x.2 = ownK (fun i => I.getD i ino0) (fun i => decide (takP (rdS d) (i : Nat))) b x.1) (fun x => ⟨[(0, .d (.fp 209 (encX d I E R))), (1, .d (.it .i64 b)), (5, .d (.it .i64 (x.2 : Nat))), (11, .dg 96 (I.flatMap encI)), (12, .d (.it .i64 (x.1 : Nat)))], [], 0⟩) (fun x => 16 - x.1) (0, 0) ⟨Nat.zero_le _, rfl⟩ ⟨And.intro rfl (And.intro rfl (And.intro rfl (And.intro rfl (And.intro rfl trivial)))), trivial, rfl⟩ ?_
  intro ⟨k, c⟩ hk0
  have hkl := hk0.1
  have hc := hk0.2
  dsimp only at hkl hc
  by_cases hk : k < 16
  · have hg : I[((k : Nat) : Int).toNat]? = some (I[k]'(by rw [h.i]; exact hk)) := List.getElem?_eq_getElem _
    have hgd : I.getD k ino0 = I[k]'(by rw [h.i]; exact hk) := by rw [List.getD_eq_getElem?_getD, List.getElem?_eq_getElem]; rfl
    generalize I[k]'(by rw [h.i]; exact hk) = y at hg hgd
    have htk := ht (k : Nat)
    have hcl := ownK_le (fun i => I.getD i ino0) (fun i => decide (takP (rdS d) (i : Nat))) b k
    rw [← hc] at hcl
    have yes : y.k = 1 → b ∈ blks y → takP (rdS d) (k : Nat) → c + 1 = ownK (fun i => I.getD i ino0) (fun i => decide (takP (rdS d) (i : Nat))) b (k + 1) := fun q1 q2 q3 => by
      rw [ownK_yes (ino := fun i => I.getD i ino0) (tk := fun i => decide (takP (rdS d) (i : Nat))) (by rw [hgd]; exact ⟨q1, q2⟩) (decide_eq_true q3), hc]
    have no : ¬ (y.k = 1 ∧ b ∈ blks y ∧ takP (rdS d) (k : Nat)) → c = ownK (fun i => I.getD i ino0) (fun i => decide (takP (rdS d) (i : Nat))) b (k + 1) := fun q => by
      rw [ownK_no (ino := fun i => I.getD i ino0) (tk := fun i => decide (takP (rdS d) (i : Nat))) (fun r => q (by have := r.1; rw [hgd] at this; exact ⟨this.1, this.2, of_decide_eq_true r.2⟩)), hc]
    by_cases hT : takP (rdS d) (k : Nat)
    all_goals first | rw [decide_eq_true hT] at htk | rw [decide_eq_false hT] at htk
    all_goals (repeat' ((conv => whnf); first | (with_reducible first | refine Spl.tt ?_ | refine Spl.ff ?_) | ((with_reducible refine callE_id ?_); first | (refine CallE.con ⟨_, htk, ?_⟩) | refine CallE.inl ?_) | ((with_reducible refine callI_id ?_); first | with_reducible refine CallI.inl ti_ok i48 rfl ?_ | with_reducible refine CallI.inl ti_ok i60 rfl ?_) | with_reducible refine LoopS.unroll ti_ok 5 ?_ | ((with_reducible refine atD_id ?_); refine AtD.eq h0 ?_) | ((with_reducible refine atA_id ?_); first | refine AtA.eq (ldD_I6 hg rfl rfl) ?_ | refine AtA.eq (hld rfl) ?_) | (with_reducible first | refine draw_auto ti_ok mixed (by decide +kernel) ?_ | refine g_i64 ?_ | refine g_u64 ?_ | refine g_u8 ?_ | refine g_iq ?_ | refine g_uq ?_ | refine g_rem ?_ | refine LetN.mk ?_ | refine g_hm ?_ | refine g_hb ?_ | refine g_lit ?_ | refine g_nm8 (fun x hx hu => ?_) | refine g_n8 (fun x hx hu => ?_) | refine g_b8 (fun x hx hu => ?_) | refine g_nm (fun x hx => ?_) | refine g_im (fun x hx => ?_) | refine g_n (fun x hx => ?_) | refine g_b (fun x hx => ?_) | refine g_and ?_ | refine g_c ?_ | refine Both.mk ?_ ?_ | refine NilS.ts ?_ | refine LetE.now ?_ | refine AtD.now ?_ | refine LetC.now ?_ | refine g_some ?_ | refine g_yk ?_ | refine g_nk ?_ | refine g_y ?_ | refine g_f ?_ | refine AtA.mk' ?_ | refine Spl.pd (fun h => ?_) (fun h => ?_) | refine Spl.peq (fun h => ?_) (fun h => ?_) | refine Spl.pne (fun h => ?_) (fun h => ?_) | refine Spl.seq (fun h => ?_) (fun h => ?_) | refine Spl.sne (fun h => ?_) (fun h => ?_) | refine Spl.nt ?_ | refine Spl.mk (fun h => ?_) (fun h => ?_))))
    all_goals first
      | (refine again (k + 1, c + 1) ⟨hk, yes (by assumption) (by simp only [blks, List.mem_cons, List.not_mem_nil, or_false]; omega) hT⟩ (by dsimp only; omega) (And.intro rfl (And.intro rfl (And.intro (it_eq (by dsimp only; omega)) (And.intro rfl (And.intro (it_eq (by dsimp only; omega)) trivial))))) trivial rfl; done)
      | (refine again (k + 1, c) ⟨hk, no (fun q => by have q2 := q.2.1; simp only [blks, List.mem_cons, List.not_mem_nil, or_false] at q2; first | exact hT q.2.2 | (have := q.1; omega))⟩ (by dsimp only; omega) (And.intro rfl (And.intro rfl (And.intro rfl (And.intro rfl (And.intro (it_eq (by dsimp only; omega)) trivial))))) trivial rfl; done)
  · have h16 : k = 16 := by omega
    rw [h16] at hc
    (repeat' ((conv => whnf); first | (with_reducible first | refine Spl.tt ?_ | refine Spl.ff ?_) | (with_reducible first | refine draw_auto ti_ok mixed (by decide +kernel) ?_ | refine g_i64 ?_ | refine g_u64 ?_ | refine g_u8 ?_ | refine g_iq ?_ | refine g_uq ?_ | refine g_rem ?_ | refine LetN.mk ?_ | refine g_hm ?_ | refine g_hb ?_ | refine g_lit ?_ | refine g_nm8 (fun x hx hu => ?_) | refine g_n8 (fun x hx hu => ?_) | refine g_b8 (fun x hx hu => ?_) | refine g_nm (fun x hx => ?_) | refine g_im (fun x hx => ?_) | refine g_n (fun x hx => ?_) | refine g_b (fun x hx => ?_) | refine g_and ?_ | refine g_c ?_ | refine Both.mk ?_ ?_ | refine NilS.ts ?_ | refine LetE.now ?_ | refine AtD.now ?_ | refine LetC.now ?_ | refine g_some ?_ | refine g_yk ?_ | refine g_nk ?_ | refine g_y ?_ | refine g_f ?_ | refine AtA.mk' ?_ | refine Spl.pd (fun h => ?_) (fun h => ?_) | refine Spl.peq (fun h => ?_) (fun h => ?_) | refine Spl.pne (fun h => ?_) (fun h => ?_) | refine Spl.seq (fun h => ?_) (fun h => ?_) | refine Spl.sne (fun h => ?_) (fun h => ?_) | refine Spl.nt ?_ | refine Spl.mk (fun h => ?_) (fun h => ?_))))
    show AV.d (.it .i64 (c : Nat)) = _
    rw [hc]
end Go.Proofs.YtenomegafkileaaGreatDoor

/- How many own a block, by the document's answer. Conditions: none. -/
namespace Go.Proofs.YtenomegafkileaaGreatDoor
open Go.Sy
set_option maxRecDepth 100000
set_option linter.all false
theorem inoAt_RI (f : Int → List UInt8) (n : Int) : RI (inoAt f n) := by
  unfold inoAt
  split
  · unfold inoOf
    split
    · rename_i h; exact h.1
    · exact .inl ⟨.inl rfl, rfl, rfl, rfl, rfl, rfl⟩
  · exact .inl ⟨.inl rfl, rfl, rfl, rfl, rfl, rfl⟩
theorem own_parts {y : Ino} (h : RI y) {b : Int} (hb : 1 ≤ b) : ∃ i0 i1 i2 i3 : Nat, (y.b0 = b → i0 = 1) ∧ (¬ y.b0 = b → i0 = 0) ∧ (y.b1 = b → i1 = 1) ∧ (¬ y.b1 = b → i1 = 0) ∧ (y.b2 = b → i2 = 1) ∧ (¬ y.b2 = b → i2 = 0) ∧ (y.b3 = b → i3 = 1) ∧ (¬ y.b3 = b → i3 = 0) ∧
    i0 + i1 + i2 + i3 = if y.k = 1 ∧ b ∈ blks y then 1 else 0 := by
  refine ⟨if y.b0 = b then 1 else 0, if y.b1 = b then 1 else 0, if y.b2 = b then 1 else 0, if y.b3 = b then 1 else 0, fun h => if_pos h, fun h => if_neg h, fun h => if_pos h, fun h => if_neg h, fun h => if_pos h, fun h => if_neg h, fun h => if_pos h, fun h => if_neg h, ?_⟩
  rw [← own1 h hb]
  simp only [blks, List.count_cons, List.count_nil, beq_iff_eq]; omega
def refO (m : List (List UInt8)) (b : Int) (k : Nat) : Nat := ownK (fun i => inoAt (imS m) (i : Nat)) (fun i => decide (takP (imS m) (i : Nat))) b k
theorem refO_step (m : List (List UInt8)) (b : Int) (k : Nat) : refO m b (k + 1) = refO m b k + if takP (imS m) (k : Nat) then (if (inoAt (imS m) (k : Nat)).k = 1 ∧ b ∈ blks (inoAt (imS m) (k : Nat)) then 1 else 0) else 0 := by
  unfold refO
  by_cases hT : takP (imS m) (k : Nat)
  · rw [if_pos hT]
    by_cases hy : (inoAt (imS m) (k : Nat)).k = 1 ∧ b ∈ blks (inoAt (imS m) (k : Nat))
    · rw [if_pos hy]
      exact ownK_yes (ino := fun i => inoAt (imS m) (i : Nat)) (tk := fun i => decide (takP (imS m) (i : Nat))) hy (decide_eq_true hT)
    · rw [if_neg hy]
      exact ownK_no (ino := fun i => inoAt (imS m) (i : Nat)) (tk := fun i => decide (takP (imS m) (i : Nat))) fun q => hy q.1
  · rw [if_neg hT]
    exact ownK_no (ino := fun i => inoAt (imS m) (i : Nat)) (tk := fun i => decide (takP (imS m) (i : Nat))) fun q => hT (of_decide_eq_true q.2)
set_option maxHeartbeats 8000000 in
theorem refOwn_ok (m : List (List UInt8)) (hm : ImOK m) (b : Int) (hb : 1 ≤ b) : FnC Tryz.prog 21 [.d (encM m), .d (.it .i64 b)] (.d (.it .i64 (refO m b 16 : Nat))) := by
  have hi := fun n => refInode_ok m hm n
  have ht := fun n => refTaken_ok m hm n
  refine FnC.intro ti_ok Tryz.func21 rfl Tryz.ntmps21 Tryz.call21 rfl (Nat.le_of_ble_eq_true rfl) rfl ?_
  (repeat' ((conv => whnf); first | (with_reducible first | refine Spl.tt ?_ | refine Spl.ff ?_) | (with_reducible first | refine draw_auto ti_ok mixed (by decide +kernel) ?_ | refine g_i64 ?_ | refine g_u64 ?_ | refine g_u8 ?_ | refine g_iq ?_ | refine g_uq ?_ | refine g_rem ?_ | refine LetN.mk ?_ | refine g_hm ?_ | refine g_hb ?_ | refine g_lit ?_ | refine g_nm8 (fun x hx hu => ?_) | refine g_n8 (fun x hx hu => ?_) | refine g_b8 (fun x hx hu => ?_) | refine g_nm (fun x hx => ?_) | refine g_im (fun x hx => ?_) | refine g_n (fun x hx => ?_) | refine g_b (fun x hx => ?_) | refine g_and ?_ | refine g_c ?_ | refine Both.mk ?_ ?_ | refine NilS.ts ?_ | refine LetE.now ?_ | refine AtD.now ?_ | refine LetC.now ?_ | refine g_some ?_ | refine g_yk ?_ | refine g_nk ?_ | refine g_y ?_ | refine g_f ?_ | refine AtA.mk' ?_ | refine Spl.pd (fun h => ?_) (fun h => ?_) | refine Spl.peq (fun h => ?_) (fun h => ?_) | refine Spl.pne (fun h => ?_) (fun h => ?_) | refine Spl.seq (fun h => ?_) (fun h => ?_) | refine Spl.sne (fun h => ?_) (fun h => ?_) | refine Spl.nt ?_ | refine Spl.mk (fun h => ?_) (fun h => ?_))))
  conv => whnf
  refine loop_rule ti_ok (fun x : Nat × Nat => x.1 ≤ 16 ∧ x.2 = refO m b x.1) (fun x => ⟨[(0, .d (encM m)), (1, .d (.it .i64 b)), (5, .d (.it .i64 (x.2 : Nat))), (6, .d (.it .i64 (x.1 : Nat)))], [], 0⟩) (fun x => 16 - x.1) (0, 0) ⟨Nat.zero_le _, rfl⟩ ⟨And.intro rfl (And.intro rfl (And.intro rfl (And.intro rfl trivial))), trivial, rfl⟩ ?_
  intro ⟨k, c⟩ hk0
  have hkl := hk0.1
  have hc := hk0.2
  dsimp only at hkl hc
  by_cases hk : k < 16
  · have hik := hi (k : Nat)
    have htk := ht (k : Nat)
    have hstep := refO_step m b k
    have hRI := inoAt_RI (imS m) (k : Nat)
    generalize inoAt (imS m) (k : Nat) = y at hik hstep hRI
    have hcl : c ≤ k := by rw [hc]; exact ownK_le _ _ _ _
    rw [← hc] at hstep
    have hparts := own_parts hRI hb
    generalize (if y.k = 1 ∧ b ∈ blks y then 1 else 0 : Nat) = q at hstep hparts
    by_cases hT : takP (imS m) (k : Nat)
    · rw [decide_eq_true hT] at htk
      rw [if_pos hT] at hstep
      (repeat' ((conv => whnf); first | (with_reducible first | refine Spl.tt ?_ | refine Spl.ff ?_) | ((with_reducible refine callE_id ?_); first | (refine CallE.con ⟨_, htk, ?_⟩) | (refine CallE.con ⟨_, hik, ?_⟩)) | with_reducible refine LoopS.unroll ti_ok 5 ?_ | (with_reducible first | refine draw_auto ti_ok mixed (by decide +kernel) ?_ | refine g_i64 ?_ | refine g_u64 ?_ | refine g_u8 ?_ | refine g_iq ?_ | refine g_uq ?_ | refine g_rem ?_ | refine LetN.mk ?_ | refine g_hm ?_ | refine g_hb ?_ | refine g_lit ?_ | refine g_nm8 (fun x hx hu => ?_) | refine g_n8 (fun x hx hu => ?_) | refine g_b8 (fun x hx hu => ?_) | refine g_nm (fun x hx => ?_) | refine g_im (fun x hx => ?_) | refine g_n (fun x hx => ?_) | refine g_b (fun x hx => ?_) | refine g_and ?_ | refine g_c ?_ | refine Both.mk ?_ ?_ | refine NilS.ts ?_ | refine LetE.now ?_ | refine AtD.now ?_ | refine LetC.now ?_ | refine g_some ?_ | refine g_yk ?_ | refine g_nk ?_ | refine g_y ?_ | refine g_f ?_ | refine AtA.mk' ?_ | refine Spl.pd (fun h => ?_) (fun h => ?_) | refine Spl.peq (fun h => ?_) (fun h => ?_) | refine Spl.pne (fun h => ?_) (fun h => ?_) | refine Spl.seq (fun h => ?_) (fun h => ?_) | refine Spl.sne (fun h => ?_) (fun h => ?_) | refine Spl.nt ?_ | refine Spl.mk (fun h => ?_) (fun h => ?_))))
      all_goals (
        refine again (k + 1, refO m b (k + 1)) ⟨hk, rfl⟩ (by dsimp only; omega) (And.intro rfl (And.intro rfl (And.intro (it_eq ?_) (And.intro (it_eq (by dsimp only; omega)) trivial)))) trivial rfl
        obtain ⟨i0, i1, i2, i3, q1, q2, q3, q4, q5, q6, q7, q8, q9⟩ := hparts
        dsimp only
        omega)
    · rw [decide_eq_false hT] at htk
      rw [if_neg hT] at hstep
      (repeat' ((conv => whnf); first | (with_reducible first | refine Spl.tt ?_ | refine Spl.ff ?_) | ((with_reducible refine callE_id ?_); first | (refine CallE.con ⟨_, htk, ?_⟩) | (refine CallE.con ⟨_, hik, ?_⟩)) | with_reducible refine LoopS.unroll ti_ok 5 ?_ | (with_reducible first | refine draw_auto ti_ok mixed (by decide +kernel) ?_ | refine g_i64 ?_ | refine g_u64 ?_ | refine g_u8 ?_ | refine g_iq ?_ | refine g_uq ?_ | refine g_rem ?_ | refine LetN.mk ?_ | refine g_hm ?_ | refine g_hb ?_ | refine g_lit ?_ | refine g_nm8 (fun x hx hu => ?_) | refine g_n8 (fun x hx hu => ?_) | refine g_b8 (fun x hx hu => ?_) | refine g_nm (fun x hx => ?_) | refine g_im (fun x hx => ?_) | refine g_n (fun x hx => ?_) | refine g_b (fun x hx => ?_) | refine g_and ?_ | refine g_c ?_ | refine Both.mk ?_ ?_ | refine NilS.ts ?_ | refine LetE.now ?_ | refine AtD.now ?_ | refine LetC.now ?_ | refine g_some ?_ | refine g_yk ?_ | refine g_nk ?_ | refine g_y ?_ | refine g_f ?_ | refine AtA.mk' ?_ | refine Spl.pd (fun h => ?_) (fun h => ?_) | refine Spl.peq (fun h => ?_) (fun h => ?_) | refine Spl.pne (fun h => ?_) (fun h => ?_) | refine Spl.seq (fun h => ?_) (fun h => ?_) | refine Spl.sne (fun h => ?_) (fun h => ?_) | refine Spl.nt ?_ | refine Spl.mk (fun h => ?_) (fun h => ?_))))
      all_goals (
        refine again (k + 1, refO m b (k + 1)) ⟨hk, rfl⟩ (by dsimp only; omega) (And.intro rfl (And.intro rfl (And.intro (it_eq ?_) (And.intro (it_eq (by dsimp only; omega)) trivial)))) trivial rfl
        dsimp only
        omega)
  · have h16 : k = 16 := by omega
    rw [h16] at hc
    (repeat' ((conv => whnf); first | (with_reducible first | refine Spl.tt ?_ | refine Spl.ff ?_) | (with_reducible first | refine draw_auto ti_ok mixed (by decide +kernel) ?_ | refine g_i64 ?_ | refine g_u64 ?_ | refine g_u8 ?_ | refine g_iq ?_ | refine g_uq ?_ | refine g_rem ?_ | refine LetN.mk ?_ | refine g_hm ?_ | refine g_hb ?_ | refine g_lit ?_ | refine g_nm8 (fun x hx hu => ?_) | refine g_n8 (fun x hx hu => ?_) | refine g_b8 (fun x hx hu => ?_) | refine g_nm (fun x hx => ?_) | refine g_im (fun x hx => ?_) | refine g_n (fun x hx => ?_) | refine g_b (fun x hx => ?_) | refine g_and ?_ | refine g_c ?_ | refine Both.mk ?_ ?_ | refine NilS.ts ?_ | refine LetE.now ?_ | refine AtD.now ?_ | refine LetC.now ?_ | refine g_some ?_ | refine g_yk ?_ | refine g_nk ?_ | refine g_y ?_ | refine g_f ?_ | refine AtA.mk' ?_ | refine Spl.pd (fun h => ?_) (fun h => ?_) | refine Spl.peq (fun h => ?_) (fun h => ?_) | refine Spl.pne (fun h => ?_) (fun h => ?_) | refine Spl.seq (fun h => ?_) (fun h => ?_) | refine Spl.sne (fun h => ?_) (fun h => ?_) | refine Spl.nt ?_ | refine Spl.mk (fun h => ?_) (fun h => ?_))))
    show AV.d (.it .i64 (c : Nat)) = _
    rw [hc]
end Go.Proofs.YtenomegafkileaaGreatDoor

/- Problems of entries. Conditions: none. -/
namespace Go.Proofs.YtenomegafkileaaGreatDoor
open Go.Sy
set_option maxRecDepth 100000
set_option linter.all false
/-- Has entry k a problem of a kind? -/
def prbP (od : Nat → Bool) (I : List Ino) (E : List Ent) (R : List Bool) (kind k : Nat) : Bool :=
  match kind with
  | 1 => od k
  | 2 => (E.getD k ent0).u && decide ((I.getD (E.getD k ent0).t.toNat ino0).k = 0)
  | 3 => (E.getD k ent0).u && !decide (sndP I R (E.getD k ent0))
  | 4 => (E.getD k ent0).u && (E.take k).any fun o => o.u && (decide (o.p = (E.getD k ent0).p) && decide (o.n = (E.getD k ent0).n))
  | 5 => (E.getD k ent0).u && (E.take k).any fun o => o.u && decide (o.t = (E.getD k ent0).t)
  | _ => false
theorem slF_id {sz len : Nat} {cs : List D} {lo hi : Option Int} {K : AV → Prop} (h : SlF sz len cs lo hi K) : SlF sz len cs lo hi K := h
theorem E_rows {E : List Ent} {R : List Bool} (h : E.length = 24) : (E.map encE).length = 24 ∧ (∀ x ∈ E.map encE, x.length = 4) ∧ (E.map encE).flatten = ((E.flatMap encE) ++ R.flatMap fun b => [D.bl b]).take (24 * 4) := by
  refine ⟨by rw [List.length_map, h], fun x hx => ?_, ?_⟩
  · obtain ⟨e, _, rfl⟩ := List.mem_map.1 hx; rfl
  · rw [List.take_left' (by rw [fm_len encE_len, h]), List.flatMap_def]
theorem any_take {α : Type} {q : α → Bool} {L : List α} {j : Nat} {x : α} (h : L[j]? = some x) (ha : (L.take j).any q = false) (hx : q x = false) : (L.take (j + 1)).any q = false := by
  rw [List.take_add_one, h, List.any_append, ha]; simpa using hx
theorem any_yes {α : Type} {q : α → Bool} {L : List α} {j k : Nat} {x : α} (h : L[j]? = some x) (hj : j < k) (hx : q x = true) : (L.take k).any q = true := by
  rw [List.any_eq_true]
  refine ⟨x, ?_, hx⟩
  have := (List.getElem?_eq_some_iff.1 h)
  rw [List.mem_take_iff_getElem]
  exact ⟨j, by have := this.1; omega, this.2⟩
theorem any_r {α : Type} {q : α → Bool} {L : List α} {k : Nat} (h : (L.take k).any q = true) : true = (true && L.any q) := by
  rw [List.any_eq_true] at h
  obtain ⟨x, hx, hq⟩ := h
  rw [Bool.true_and, eq_comm, List.any_eq_true]
  exact ⟨x, List.mem_of_mem_take hx, hq⟩
theorem any_f {α : Type} {q : α → Bool} {L : List α} (h : L.any q = false) : false = (true && L.any q) := by rw [h]; rfl
def lwS (L : List Ent) (f a b : Nat) (k j : Nat) : List (Nat × AV) := [(0, .d (.fs 4 (L.map encE))), (1, .fn (.func f) [] [.ptr a 0, .ptr b 0]), (7, .d (.it .i64 (k : Nat))), (8, .d (.it .i64 (j : Nat)))]
set_option maxHeartbeats 8000000 in
theorem hasE_ok {d : Option Dk} (hd : DkOK d) {I : List Ino} {E : List Ent} {R : List Bool} (h : XOK I E R) (kind k : Nat) (hk : k < 24) (h1 : 1 ≤ kind ∧ kind ≤ 5) : FnC Tryz.prog 34 [.d (.fp 209 (encX d I E R)), .d (.it .i64 (kind : Nat)), .d (.it .i64 (k : Nat))] (.d (.bl (prbP (fun k => decide (oddP d (k : Nat))) I E R kind k))) := by
  have h97 := x_d97 (d := d) h
  have h1d := x_d1 (d := d) (I := I) (E := E) (R := R)
  obtain ⟨e, he⟩ := lt_get (l := E) (k := k) (by rw [h.e]; omega)
  have hmem : e ∈ E := List.mem_of_getElem? he
  have hgd : E.getD k ent0 = e := by rw [List.getD_eq_getElem?_getD, he]; rfl
  have hE := at_E (E := E) (R := R) (n := (k : Nat)) he
  have hod := odd_ok hd I E R (k : Nat) (by omega)
  have hsn := sound_ok (d := d) h hmem
  have hxe : encE e = [.bl e.u, .it .i64 e.p, .st e.n, .it .i64 e.t] := rfl
  have hp := h.p e hmem
  have hrows := E_rows (R := R) h.e
  unfold prbP
  rw [hgd]
  have hk5 : kind = 1 ∨ kind = 2 ∨ kind = 3 ∨ kind = 4 ∨ kind = 5 := by omega
  cases hu : e.u with
  | false =>
    rw [hu] at hxe
    rw [hxe] at hE hsn
    refine FnC.intro ti_ok Tryz.func34 rfl Tryz.ntmps34 Tryz.call34 rfl (Nat.le_of_ble_eq_true rfl) rfl ?_
    rcases hk5 with rfl | rfl | rfl | rfl | rfl
    all_goals (repeat' ((conv => whnf); first | (with_reducible first | refine Spl.tt ?_ | refine Spl.ff ?_) | ((with_reducible refine callE_id ?_); first | (refine CallE.con ⟨_, hod, ?_⟩) | (refine CallE.inl ?_)) | ((with_reducible refine callI_id ?_); with_reducible refine CallI.inl ti_ok i45 rfl ?_) | ((with_reducible refine atD_id ?_); first | refine AtD.eq h97 ?_ | refine AtD.eq hE ?_) | (with_reducible first | refine draw_auto ti_ok mixed (by decide +kernel) ?_ | refine g_i64 ?_ | refine g_u64 ?_ | refine g_u8 ?_ | refine g_iq ?_ | refine g_uq ?_ | refine g_rem ?_ | refine LetN.mk ?_ | refine g_hm ?_ | refine g_hb ?_ | refine g_lit ?_ | refine g_nm8 (fun x hx hu => ?_) | refine g_n8 (fun x hx hu => ?_) | refine g_b8 (fun x hx hu => ?_) | refine g_nm (fun x hx => ?_) | refine g_im (fun x hx => ?_) | refine g_n (fun x hx => ?_) | refine g_b (fun x hx => ?_) | refine g_and ?_ | refine g_c ?_ | refine Both.mk ?_ ?_ | refine NilS.ts ?_ | refine LetE.now ?_ | refine AtD.now ?_ | refine LetC.now ?_ | refine g_some ?_ | refine g_yk ?_ | refine g_nk ?_ | refine g_y ?_ | refine g_f ?_ | refine AtA.mk' ?_ | refine Spl.pd (fun h => ?_) (fun h => ?_) | refine Spl.peq (fun h => ?_) (fun h => ?_) | refine Spl.pne (fun h => ?_) (fun h => ?_) | refine Spl.seq (fun h => ?_) (fun h => ?_) | refine Spl.sne (fun h => ?_) (fun h => ?_) | refine Spl.nt ?_ | refine Spl.mk (fun h => ?_) (fun h => ?_))))
    all_goals rfl
  | true =>
    obtain ⟨p1, p2, t1, t2⟩ := hp hu
    rw [hu] at hxe
    rw [hxe] at hE hsn
    obtain ⟨y, hy⟩ := lt_get (l := I) (k := e.t.toNat) (by rw [h.i]; omega)
    have hI := at_I (E := E) (R := R) hy
    have hyg : I.getD e.t.toNat ino0 = y := by rw [List.getD_eq_getElem?_getD, hy]; rfl
    rcases hk5 with rfl | rfl | rfl | rfl | rfl
    · refine FnC.intro ti_ok Tryz.func34 rfl Tryz.ntmps34 Tryz.call34 rfl (Nat.le_of_ble_eq_true rfl) rfl ?_
      (repeat' ((conv => whnf); first | (with_reducible first | refine Spl.tt ?_ | refine Spl.ff ?_) | ((with_reducible refine callE_id ?_); first | (refine CallE.con ⟨_, hod, ?_⟩)) | ((with_reducible refine atD_id ?_); first | refine AtD.eq h97 ?_ | refine AtD.eq hE ?_) | (with_reducible first | refine draw_auto ti_ok mixed (by decide +kernel) ?_ | refine g_i64 ?_ | refine g_u64 ?_ | refine g_u8 ?_ | refine g_iq ?_ | refine g_uq ?_ | refine g_rem ?_ | refine LetN.mk ?_ | refine g_hm ?_ | refine g_hb ?_ | refine g_lit ?_ | refine g_nm8 (fun x hx hu => ?_) | refine g_n8 (fun x hx hu => ?_) | refine g_b8 (fun x hx hu => ?_) | refine g_nm (fun x hx => ?_) | refine g_im (fun x hx => ?_) | refine g_n (fun x hx => ?_) | refine g_b (fun x hx => ?_) | refine g_and ?_ | refine g_c ?_ | refine Both.mk ?_ ?_ | refine NilS.ts ?_ | refine LetE.now ?_ | refine AtD.now ?_ | refine LetC.now ?_ | refine g_some ?_ | refine g_yk ?_ | refine g_nk ?_ | refine g_y ?_ | refine g_f ?_ | refine AtA.mk' ?_ | refine Spl.pd (fun h => ?_) (fun h => ?_) | refine Spl.peq (fun h => ?_) (fun h => ?_) | refine Spl.pne (fun h => ?_) (fun h => ?_) | refine Spl.seq (fun h => ?_) (fun h => ?_) | refine Spl.sne (fun h => ?_) (fun h => ?_) | refine Spl.nt ?_ | refine Spl.mk (fun h => ?_) (fun h => ?_))))
      rfl
    · rw [hyg]
      refine FnC.intro ti_ok Tryz.func34 rfl Tryz.ntmps34 Tryz.call34 rfl (Nat.le_of_ble_eq_true rfl) rfl ?_
      (repeat' ((conv => whnf); first | (with_reducible first | refine Spl.tt ?_ | refine Spl.ff ?_) | ((with_reducible refine atD_id ?_); first | refine AtD.eq h97 ?_ | refine AtD.eq hE ?_ | refine AtD.eq h1d ?_ | refine AtD.eq hI ?_) | (with_reducible first | refine draw_auto ti_ok mixed (by decide +kernel) ?_ | refine g_i64 ?_ | refine g_u64 ?_ | refine g_u8 ?_ | refine g_iq ?_ | refine g_uq ?_ | refine g_rem ?_ | refine LetN.mk ?_ | refine g_hm ?_ | refine g_hb ?_ | refine g_lit ?_ | refine g_nm8 (fun x hx hu => ?_) | refine g_n8 (fun x hx hu => ?_) | refine g_b8 (fun x hx hu => ?_) | refine g_nm (fun x hx => ?_) | refine g_im (fun x hx => ?_) | refine g_n (fun x hx => ?_) | refine g_b (fun x hx => ?_) | refine g_and ?_ | refine g_c ?_ | refine Both.mk ?_ ?_ | refine NilS.ts ?_ | refine LetE.now ?_ | refine AtD.now ?_ | refine LetC.now ?_ | refine g_some ?_ | refine g_yk ?_ | refine g_nk ?_ | refine g_y ?_ | refine g_f ?_ | refine AtA.mk' ?_ | refine Spl.pd (fun h => ?_) (fun h => ?_) | refine Spl.peq (fun h => ?_) (fun h => ?_) | refine Spl.pne (fun h => ?_) (fun h => ?_) | refine Spl.seq (fun h => ?_) (fun h => ?_) | refine Spl.sne (fun h => ?_) (fun h => ?_) | refine Spl.nt ?_ | refine Spl.mk (fun h => ?_) (fun h => ?_))))
      refine bl_eq ?_
      show (y.k == 0) = (true && decide (y.k = 0))
      rw [Bool.true_and]
      exact (by by_cases h0 : y.k = 0 <;> simp [h0])
    · by_cases hs : sndP I R e
      all_goals first | rw [decide_eq_true hs] at hsn | rw [decide_eq_false hs] at hsn
      all_goals refine FnC.intro ti_ok Tryz.func34 rfl Tryz.ntmps34 Tryz.call34 rfl (Nat.le_of_ble_eq_true rfl) rfl ?_
      all_goals (repeat' ((conv => whnf); first | (with_reducible first | refine Spl.tt ?_ | refine Spl.ff ?_) | ((with_reducible refine callE_id ?_); (refine CallE.con ⟨_, hsn, ?_⟩)) | ((with_reducible refine atD_id ?_); first | refine AtD.eq h97 ?_ | refine AtD.eq hE ?_) | (with_reducible first | refine draw_auto ti_ok mixed (by decide +kernel) ?_ | refine g_i64 ?_ | refine g_u64 ?_ | refine g_u8 ?_ | refine g_iq ?_ | refine g_uq ?_ | refine g_rem ?_ | refine LetN.mk ?_ | refine g_hm ?_ | refine g_hb ?_ | refine g_lit ?_ | refine g_nm8 (fun x hx hu => ?_) | refine g_n8 (fun x hx hu => ?_) | refine g_b8 (fun x hx hu => ?_) | refine g_nm (fun x hx => ?_) | refine g_im (fun x hx => ?_) | refine g_n (fun x hx => ?_) | refine g_b (fun x hx => ?_) | refine g_and ?_ | refine g_c ?_ | refine Both.mk ?_ ?_ | refine NilS.ts ?_ | refine LetE.now ?_ | refine AtD.now ?_ | refine LetC.now ?_ | refine g_some ?_ | refine g_yk ?_ | refine g_nk ?_ | refine g_y ?_ | refine g_f ?_ | refine AtA.mk' ?_ | refine Spl.pd (fun h => ?_) (fun h => ?_) | refine Spl.peq (fun h => ?_) (fun h => ?_) | refine Spl.pne (fun h => ?_) (fun h => ?_) | refine Spl.seq (fun h => ?_) (fun h => ?_) | refine Spl.sne (fun h => ?_) (fun h => ?_) | refine Spl.nt ?_ | refine Spl.mk (fun h => ?_) (fun h => ?_))))
      · rw [decide_eq_true hs]; rfl
      · rw [decide_eq_false hs]; rfl
    · have hlt : (E.take k).length = k := by rw [List.length_take, h.e]; omega
      have hlen : ((E.take k).map encE).length = k := by rw [List.length_map, hlt]
      refine FnC.intro ti_ok Tryz.func34 rfl Tryz.ntmps34 Tryz.call34 rfl (Nat.le_of_ble_eq_true rfl) rfl ?_
      (repeat' ((conv => whnf); first | (with_reducible first | refine Spl.tt ?_ | refine Spl.ff ?_) | ((with_reducible refine callE_id ?_); (refine CallE.inl ?_)) | ((with_reducible refine callI_id ?_); first | with_reducible refine CallI.inl ti_ok i45 rfl ?_ | with_reducible refine CallI.inl ti_ok i58 rfl ?_ | with_reducible refine CallI.inl ti_ok i69 rfl ?_) | ((with_reducible refine atD_id ?_); first | refine AtD.eq h97 ?_ | refine AtD.eq hE ?_) | ((with_reducible refine slF_id ?_); refine SlF.mk ⟨E.map encE, hrows, ?_⟩) | ((with_reducible refine letE_id ?_); refine LetE.mk ((E.take k).map encE) (List.map_take) ?_) | (with_reducible first | refine draw_auto ti_ok mixed (by decide +kernel) ?_ | refine g_i64 ?_ | refine g_u64 ?_ | refine g_u8 ?_ | refine g_iq ?_ | refine g_uq ?_ | refine g_rem ?_ | refine LetN.mk ?_ | refine g_hm ?_ | refine g_hb ?_ | refine g_lit ?_ | refine g_nm8 (fun x hx hu => ?_) | refine g_n8 (fun x hx hu => ?_) | refine g_b8 (fun x hx hu => ?_) | refine g_nm (fun x hx => ?_) | refine g_im (fun x hx => ?_) | refine g_n (fun x hx => ?_) | refine g_b (fun x hx => ?_) | refine g_and ?_ | refine g_c ?_ | refine Both.mk ?_ ?_ | refine NilS.ts ?_ | refine LetE.now ?_ | refine AtD.now ?_ | refine LetC.now ?_ | refine g_some ?_ | refine g_yk ?_ | refine g_nk ?_ | refine g_y ?_ | refine g_f ?_ | refine AtA.mk' ?_ | refine Spl.pd (fun h => ?_) (fun h => ?_) | refine Spl.peq (fun h => ?_) (fun h => ?_) | refine Spl.pne (fun h => ?_) (fun h => ?_) | refine Spl.seq (fun h => ?_) (fun h => ?_) | refine Spl.sne (fun h => ?_) (fun h => ?_) | refine Spl.nt ?_ | refine Spl.mk (fun h => ?_) (fun h => ?_))))
      refine loop_mem0 ti_ok (fun j : Nat => j ≤ k ∧ ((E.take k).take j).any (fun o => o.u && (decide (o.p = e.p) && decide (o.n = e.n))) = false) (lwS (E.take k) 59 3 4 k) (fun j => k - j) 0 ⟨Nat.zero_le _, rfl⟩ ⟨rfl, rfl, it_eq (by rw [hlen]), rfl, trivial⟩ rfl ?_
      intro j ⟨hj, ha⟩
      by_cases hjk : j < k
      · (repeat' ((conv => whnf); first | (with_reducible first | refine Spl.tt ?_ | refine Spl.ff ?_) | ((with_reducible refine callI_id ?_); first | with_reducible refine CallI.inl ti_ok i59 rfl ?_ | with_reducible refine CallI.inl ti_ok i46 rfl ?_) | (with_reducible first | refine draw_auto ti_ok mixed (by decide +kernel) ?_ | refine g_i64 ?_ | refine g_u64 ?_ | refine g_u8 ?_ | refine g_iq ?_ | refine g_uq ?_ | refine g_rem ?_ | refine LetN.mk ?_ | refine g_hm ?_ | refine g_hb ?_ | refine g_lit ?_ | refine g_nm8 (fun x hx hu => ?_) | refine g_n8 (fun x hx hu => ?_) | refine g_b8 (fun x hx hu => ?_) | refine g_nm (fun x hx => ?_) | refine g_im (fun x hx => ?_) | refine g_n (fun x hx => ?_) | refine g_b (fun x hx => ?_) | refine g_and ?_ | refine g_c ?_ | refine Both.mk ?_ ?_ | refine NilS.ts ?_ | refine LetE.now ?_ | refine AtD.now ?_ | refine LetC.now ?_ | refine g_some ?_ | refine g_yk ?_ | refine g_nk ?_ | refine g_y ?_ | refine g_f ?_ | refine AtA.mk' ?_ | refine Spl.pd (fun h => ?_) (fun h => ?_) | refine Spl.peq (fun h => ?_) (fun h => ?_) | refine Spl.pne (fun h => ?_) (fun h => ?_) | refine Spl.seq (fun h => ?_) (fun h => ?_) | refine Spl.sne (fun h => ?_) (fun h => ?_) | refine Spl.nt ?_ | refine Spl.mk (fun h => ?_) (fun h => ?_))))
        all_goals (have hx' := hx; first
          | (refine againM0 (j + 1) ⟨hjk, any_take hx ha (by first | (simp [(by assumption : x.u = false)]; done) | (simp [(by assumption : ¬ x.p = e.p)]; done) | (simp [(by assumption : ¬ x.n = e.n)]; done))⟩ (by dsimp only; omega) (And.intro rfl (And.intro rfl (And.intro rfl (And.intro (it_eq (by omega)) trivial)))) (by (repeat (first | exact trivial | refine And.intro rfl ?_))) rfl; done)
          | (refine bl_eq (any_r (any_yes hx hjk (by simp [(by assumption : x.u = true), (by assumption : x.p = e.p), (by assumption : x.n = e.n)]))); done))
      · have hjk2 : j = k := by omega
        rw [hjk2, List.take_of_length_le (by rw [List.length_take]; omega)] at ha
        (repeat' ((conv => whnf); first | (with_reducible first | refine Spl.tt ?_ | refine Spl.ff ?_) | (with_reducible first | refine draw_auto ti_ok mixed (by decide +kernel) ?_ | refine g_i64 ?_ | refine g_u64 ?_ | refine g_u8 ?_ | refine g_iq ?_ | refine g_uq ?_ | refine g_rem ?_ | refine LetN.mk ?_ | refine g_hm ?_ | refine g_hb ?_ | refine g_lit ?_ | refine g_nm8 (fun x hx hu => ?_) | refine g_n8 (fun x hx hu => ?_) | refine g_b8 (fun x hx hu => ?_) | refine g_nm (fun x hx => ?_) | refine g_im (fun x hx => ?_) | refine g_n (fun x hx => ?_) | refine g_b (fun x hx => ?_) | refine g_and ?_ | refine g_c ?_ | refine Both.mk ?_ ?_ | refine NilS.ts ?_ | refine LetE.now ?_ | refine AtD.now ?_ | refine LetC.now ?_ | refine g_some ?_ | refine g_yk ?_ | refine g_nk ?_ | refine g_y ?_ | refine g_f ?_ | refine AtA.mk' ?_ | refine Spl.pd (fun h => ?_) (fun h => ?_) | refine Spl.peq (fun h => ?_) (fun h => ?_) | refine Spl.pne (fun h => ?_) (fun h => ?_) | refine Spl.seq (fun h => ?_) (fun h => ?_) | refine Spl.sne (fun h => ?_) (fun h => ?_) | refine Spl.nt ?_ | refine Spl.mk (fun h => ?_) (fun h => ?_))))
        exact bl_eq (any_f ha)
    · have hlt : (E.take k).length = k := by rw [List.length_take, h.e]; omega
      have hlen : ((E.take k).map encE).length = k := by rw [List.length_map, hlt]
      refine FnC.intro ti_ok Tryz.func34 rfl Tryz.ntmps34 Tryz.call34 rfl (Nat.le_of_ble_eq_true rfl) rfl ?_
      (repeat' ((conv => whnf); first | (with_reducible first | refine Spl.tt ?_ | refine Spl.ff ?_) | ((with_reducible refine callE_id ?_); (refine CallE.inl ?_)) | ((with_reducible refine callI_id ?_); first | with_reducible refine CallI.inl ti_ok i45 rfl ?_ | with_reducible refine CallI.inl ti_ok i58 rfl ?_ | with_reducible refine CallI.inl ti_ok i69 rfl ?_) | ((with_reducible refine atD_id ?_); first | refine AtD.eq h97 ?_ | refine AtD.eq hE ?_) | ((with_reducible refine slF_id ?_); refine SlF.mk ⟨E.map encE, hrows, ?_⟩) | ((with_reducible refine letE_id ?_); refine LetE.mk ((E.take k).map encE) (List.map_take) ?_) | (with_reducible first | refine draw_auto ti_ok mixed (by decide +kernel) ?_ | refine g_i64 ?_ | refine g_u64 ?_ | refine g_u8 ?_ | refine g_iq ?_ | refine g_uq ?_ | refine g_rem ?_ | refine LetN.mk ?_ | refine g_hm ?_ | refine g_hb ?_ | refine g_lit ?_ | refine g_nm8 (fun x hx hu => ?_) | refine g_n8 (fun x hx hu => ?_) | refine g_b8 (fun x hx hu => ?_) | refine g_nm (fun x hx => ?_) | refine g_im (fun x hx => ?_) | refine g_n (fun x hx => ?_) | refine g_b (fun x hx => ?_) | refine g_and ?_ | refine g_c ?_ | refine Both.mk ?_ ?_ | refine NilS.ts ?_ | refine LetE.now ?_ | refine AtD.now ?_ | refine LetC.now ?_ | refine g_some ?_ | refine g_yk ?_ | refine g_nk ?_ | refine g_y ?_ | refine g_f ?_ | refine AtA.mk' ?_ | refine Spl.pd (fun h => ?_) (fun h => ?_) | refine Spl.peq (fun h => ?_) (fun h => ?_) | refine Spl.pne (fun h => ?_) (fun h => ?_) | refine Spl.seq (fun h => ?_) (fun h => ?_) | refine Spl.sne (fun h => ?_) (fun h => ?_) | refine Spl.nt ?_ | refine Spl.mk (fun h => ?_) (fun h => ?_))))
      refine loop_mem0 ti_ok (fun j : Nat => j ≤ k ∧ ((E.take k).take j).any (fun o => o.u && decide (o.t = e.t)) = false) (lwS (E.take k) 59 3 4 k) (fun j => k - j) 0 ⟨Nat.zero_le _, rfl⟩ ⟨rfl, rfl, it_eq (by rw [hlen]), rfl, trivial⟩ rfl ?_
      intro j ⟨hj, ha⟩
      by_cases hjk : j < k
      · (repeat' ((conv => whnf); first | (with_reducible first | refine Spl.tt ?_ | refine Spl.ff ?_) | ((with_reducible refine callI_id ?_); first | with_reducible refine CallI.inl ti_ok i59 rfl ?_ | with_reducible refine CallI.inl ti_ok i47 rfl ?_) | (with_reducible first | refine draw_auto ti_ok mixed (by decide +kernel) ?_ | refine g_i64 ?_ | refine g_u64 ?_ | refine g_u8 ?_ | refine g_iq ?_ | refine g_uq ?_ | refine g_rem ?_ | refine LetN.mk ?_ | refine g_hm ?_ | refine g_hb ?_ | refine g_lit ?_ | refine g_nm8 (fun x hx hu => ?_) | refine g_n8 (fun x hx hu => ?_) | refine g_b8 (fun x hx hu => ?_) | refine g_nm (fun x hx => ?_) | refine g_im (fun x hx => ?_) | refine g_n (fun x hx => ?_) | refine g_b (fun x hx => ?_) | refine g_and ?_ | refine g_c ?_ | refine Both.mk ?_ ?_ | refine NilS.ts ?_ | refine LetE.now ?_ | refine AtD.now ?_ | refine LetC.now ?_ | refine g_some ?_ | refine g_yk ?_ | refine g_nk ?_ | refine g_y ?_ | refine g_f ?_ | refine AtA.mk' ?_ | refine Spl.pd (fun h => ?_) (fun h => ?_) | refine Spl.peq (fun h => ?_) (fun h => ?_) | refine Spl.pne (fun h => ?_) (fun h => ?_) | refine Spl.seq (fun h => ?_) (fun h => ?_) | refine Spl.sne (fun h => ?_) (fun h => ?_) | refine Spl.nt ?_ | refine Spl.mk (fun h => ?_) (fun h => ?_))))
        all_goals (have hx' := hx; first
          | (refine againM0 (j + 1) ⟨hjk, any_take hx ha (by first | (simp [(by assumption : x.u = false)]; done) | (simp [(by assumption : ¬ x.t = e.t)]; done))⟩ (by dsimp only; omega) (And.intro rfl (And.intro rfl (And.intro rfl (And.intro (it_eq (by omega)) trivial)))) (by (repeat (first | exact trivial | refine And.intro rfl ?_))) rfl; done)
          | (refine bl_eq (any_r (any_yes hx hjk (by simp [(by assumption : x.u = true), (by assumption : x.t = e.t)]))); done))
      · have hjk2 : j = k := by omega
        rw [hjk2, List.take_of_length_le (by rw [List.length_take]; omega)] at ha
        (repeat' ((conv => whnf); first | (with_reducible first | refine Spl.tt ?_ | refine Spl.ff ?_) | (with_reducible first | refine draw_auto ti_ok mixed (by decide +kernel) ?_ | refine g_i64 ?_ | refine g_u64 ?_ | refine g_u8 ?_ | refine g_iq ?_ | refine g_uq ?_ | refine g_rem ?_ | refine LetN.mk ?_ | refine g_hm ?_ | refine g_hb ?_ | refine g_lit ?_ | refine g_nm8 (fun x hx hu => ?_) | refine g_n8 (fun x hx hu => ?_) | refine g_b8 (fun x hx hu => ?_) | refine g_nm (fun x hx => ?_) | refine g_im (fun x hx => ?_) | refine g_n (fun x hx => ?_) | refine g_b (fun x hx => ?_) | refine g_and ?_ | refine g_c ?_ | refine Both.mk ?_ ?_ | refine NilS.ts ?_ | refine LetE.now ?_ | refine AtD.now ?_ | refine LetC.now ?_ | refine g_some ?_ | refine g_yk ?_ | refine g_nk ?_ | refine g_y ?_ | refine g_f ?_ | refine AtA.mk' ?_ | refine Spl.pd (fun h => ?_) (fun h => ?_) | refine Spl.peq (fun h => ?_) (fun h => ?_) | refine Spl.pne (fun h => ?_) (fun h => ?_) | refine Spl.seq (fun h => ?_) (fun h => ?_) | refine Spl.sne (fun h => ?_) (fun h => ?_) | refine Spl.nt ?_ | refine Spl.mk (fun h => ?_) (fun h => ?_))))
        exact bl_eq (any_f ha)
end Go.Proofs.YtenomegafkileaaGreatDoor

/- The document's answer: what is reached; problems of entries. Conditions: none. -/
namespace Go.Proofs.YtenomegafkileaaGreatDoor
open Go.Sy
set_option maxRecDepth 100000
set_option linter.all false
theorem kdI_at (f : Int → List UInt8) {n : Int} (h : 0 ≤ n ∧ n < 16) : kdI (xI f 16) n = (inoAt f n).k := by
  unfold kdI
  have h1 : n.toNat < (xI f 16).length := by rw [xI_len]; omega
  rw [List.getD_eq_getElem?_getD, List.getElem?_eq_getElem h1, Option.getD_some, xI_get, if_pos (by omega), Int.toNat_of_nonneg h.1]
theorem xE_at (f : Int → List UInt8) {k : Nat} (h : k < 24) : (xE f 24)[k]? = some (entAt f (k : Nat)) := by
  have h1 : k < (xE f 24).length := by rw [xE_len]; omega
  rw [List.getElem?_eq_getElem h1, xE_get, if_pos h]
theorem xE_getD (f : Int → List UInt8) {k : Nat} (h : k < 24) : (xE f 24).getD k ent0 = entAt f (k : Nat) := by rw [List.getD_eq_getElem?_getD, xE_at f h]; rfl
section
variable {R : List Bool} {n : Nat} {b : Bool} {ty : Ty} {off i j : Nat}
theorem ldR (hb : R[n]? = some b) (ha : ty.kd.agg = false) (ho : off = 0 + n * 1) : ldA ty off ((R.map D.bl).map AV.d) = .d (.bl b) := by
  subst ho
  unfold ldA
  rw [ha, cond_false, List.getD_eq_getElem?_getD, List.getElem?_map, List.getElem?_map, show 0 + n * 1 = n by omega, hb]; rfl
theorem ldRs (h : R.length = 16) (ha : ty.kd.agg = true) (hz : ty.size = 16) : ldA ty 0 ((R.map D.bl).map AV.d) = .dg 16 (R.map D.bl) := by
  unfold ldA
  rw [ha, cond_true, hz, List.drop_zero, List.take_of_length_le (by simp [h])]
  unfold mkAg
  rw [allD_map]
theorem ldRs' (h : R.length = 16) {a : List AV} (hx : a = (R.map D.bl).map AV.d) (ha : ty.kd.agg = true) (hz : ty.size = 16) : ldA ty 0 a = .dg 16 (R.map D.bl) := by rw [hx]; exact ldRs h ha hz
theorem stR (hn : n < R.length) (hi : i = 0 + n * 1) (hj : j = i + 1) : ((R.map D.bl).map AV.d).take i ++ [AV.d (.bl b)] ++ ((R.map D.bl).map AV.d).drop j = ((R.set n b).map D.bl).map AV.d := by
  subst hi hj
  rw [show 0 + n * 1 = n by omega, List.map_set, List.map_set, List.set_eq_take_append_cons_drop, if_pos (by simpa using hn)]; simp
end
def rcS (m : List (List UInt8)) (j : Nat) (R : List Bool) : S := ⟨[(0, .d (encM m)), (2, .ptr 0 0), (3, .ptr 1 0), (4, .d (.it .i64 (j : Nat)))], [(0, .cells 16 ((F16.map D.bl).map .d)), (1, .cells 16 ((R.map D.bl).map .d))], 2⟩
def rcS2 (m : List (List UInt8)) (j k : Nat) (R : List Bool) : S := ⟨[(0, .d (encM m)), (2, .ptr 0 0), (3, .ptr 1 0), (4, .d (.it .i64 (j : Nat))), (5, .d (.it .i64 (k : Nat)))], [(0, .cells 16 ((F16.map D.bl).map .d)), (1, .cells 16 ((R.map D.bl).map .d))], 2⟩
theorem rcS_ok (m : List (List UInt8)) (j : Nat) (R : List Bool) : (rcS m j R).ok = true := by
  unfold rcS
  simp only [S.ok, List.all_cons, List.all_nil, Ob.lt, all_d]; rfl
theorem rcS2_ok (m : List (List UInt8)) (j k : Nat) (R : List Bool) : (rcS2 m j k R).ok = true := by
  unfold rcS2
  simp only [S.ok, List.all_cons, List.all_nil, Ob.lt, all_d]; rfl
theorem stepR_if {kd : Int → Int} {R : List Bool} {x : Ent} {r : Bool} {k3 k4 : Int} (hu : x.u = true) (hr : R[x.p.toNat]? = some r) (h3 : kd x.p = k3) (h4 : kd x.t = k4) :
    stepR kd R x = if r = true ∧ k3 = 2 ∧ k4 ≠ 0 then R.set x.t.toNat true else R := by
  have e : R.getD x.p.toNat false = r := by rw [List.getD_eq_getElem?_getD, hr]; rfl
  unfold stepR
  rw [e, h3, h4]
  by_cases hc : r = true ∧ k3 = 2 ∧ k4 ≠ 0
  · rw [if_pos ⟨hu, hc⟩, if_pos hc]
  · rw [if_neg (fun q => hc q.2), if_neg hc]
theorem iterR_succ (kd : Int → Int) (E : List Ent) (n : Nat) (R : List Bool) : iterR kd E (n + 1) R = passR kd E (iterR kd E n R) := by rw [iterR_add]; rfl
set_option maxHeartbeats 8000000 in
theorem refRch_ok (m : List (List UInt8)) (hm : ImOK m) : FnC Tryz.prog 19 [.d (encM m)] (.dg 16 ((reachR (kdI (xI (imS m) 16)) (xE (imS m) 24)).map D.bl)) := by
  have hi := fun n => refInode_ok m hm n
  have he := fun n => refEntry_ok m hm n
  have hE := fun {k : Nat} (h : k < 24) => xE_at (imS m) h
  have hkd := fun {n : Int} (h : 0 ≤ n ∧ n < 16) => kdI_at (imS m) h
  have hEl := xE_len (imS m) 24
  have hRE := fun k : Nat => entAt_RE (imS m) (k : Nat)
  unfold reachR
  generalize kdI (xI (imS m) 16) = kd at *
  generalize xE (imS m) 24 = E at *
  refine FnC.intro ti_ok Tryz.func19 rfl Tryz.ntmps19 Tryz.call19 rfl (Nat.le_of_ble_eq_true rfl) rfl ?_
  (repeat' ((conv => whnf); first | (with_reducible first | refine Spl.tt ?_ | refine Spl.ff ?_) | (with_reducible first | refine draw_auto ti_ok mixed (by decide +kernel) ?_ | refine g_i64 ?_ | refine g_u64 ?_ | refine g_u8 ?_ | refine g_iq ?_ | refine g_uq ?_ | refine g_rem ?_ | refine LetN.mk ?_ | refine g_hm ?_ | refine g_hb ?_ | refine g_lit ?_ | refine g_nm8 (fun x hx hu => ?_) | refine g_n8 (fun x hx hu => ?_) | refine g_b8 (fun x hx hu => ?_) | refine g_nm (fun x hx => ?_) | refine g_im (fun x hx => ?_) | refine g_n (fun x hx => ?_) | refine g_b (fun x hx => ?_) | refine g_and ?_ | refine g_c ?_ | refine Both.mk ?_ ?_ | refine NilS.ts ?_ | refine LetE.now ?_ | refine AtD.now ?_ | refine LetC.now ?_ | refine g_some ?_ | refine g_yk ?_ | refine g_nk ?_ | refine g_y ?_ | refine g_f ?_ | refine AtA.mk' ?_ | refine Spl.pd (fun h => ?_) (fun h => ?_) | refine Spl.peq (fun h => ?_) (fun h => ?_) | refine Spl.pne (fun h => ?_) (fun h => ?_) | refine Spl.seq (fun h => ?_) (fun h => ?_) | refine Spl.sne (fun h => ?_) (fun h => ?_) | refine Spl.nt ?_ | refine Spl.mk (fun h => ?_) (fun h => ?_))))
  conv => whnf
  refine loop_rule ti_ok (fun x : Nat × List Bool => x.1 ≤ 16 ∧ x.2 = iterR kd E x.1 R0) (fun x => rcS m x.1 x.2) (fun x => 16 - x.1) (0, R0) ⟨Nat.zero_le _, rfl⟩ ⟨And.intro rfl (And.intro rfl (And.intro rfl (And.intro rfl trivial))), And.intro (cells_eq rfl (by with_unfolding_all exact rfl)) (And.intro (cells_eq rfl (by with_unfolding_all exact rfl)) trivial), rcS_ok ..⟩ ?_
  intro ⟨j, R1⟩ hj0
  have hj := hj0.1
  have hR1 := hj0.2
  dsimp only at hj hR1
  have hl1 : R1.length = 16 := by rw [hR1, iterR_len]; rfl
  by_cases hj16 : j < 16
  · have hnext := iterR_succ kd E j R0
    rw [← hR1] at hnext
    (repeat' ((conv => whnf); first | (with_reducible first | refine Spl.tt ?_ | refine Spl.ff ?_) | (with_reducible first | refine draw_auto ti_ok mixed (by decide +kernel) ?_ | refine g_i64 ?_ | refine g_u64 ?_ | refine g_u8 ?_ | refine g_iq ?_ | refine g_uq ?_ | refine g_rem ?_ | refine LetN.mk ?_ | refine g_hm ?_ | refine g_hb ?_ | refine g_lit ?_ | refine g_nm8 (fun x hx hu => ?_) | refine g_n8 (fun x hx hu => ?_) | refine g_b8 (fun x hx hu => ?_) | refine g_nm (fun x hx => ?_) | refine g_im (fun x hx => ?_) | refine g_n (fun x hx => ?_) | refine g_b (fun x hx => ?_) | refine g_and ?_ | refine g_c ?_ | refine Both.mk ?_ ?_ | refine NilS.ts ?_ | refine LetE.now ?_ | refine AtD.now ?_ | refine LetC.now ?_ | refine g_some ?_ | refine g_yk ?_ | refine g_nk ?_ | refine g_y ?_ | refine g_f ?_ | refine AtA.mk' ?_ | refine Spl.pd (fun h => ?_) (fun h => ?_) | refine Spl.peq (fun h => ?_) (fun h => ?_) | refine Spl.pne (fun h => ?_) (fun h => ?_) | refine Spl.seq (fun h => ?_) (fun h => ?_) | refine Spl.sne (fun h => ?_) (fun h => ?_) | refine Spl.nt ?_ | refine Spl.mk (fun h => ?_) (fun h => ?_))))
    conv => whnf
    refine loop_rule ti_ok (fun x : Nat × List Bool => x.1 ≤ 24 ∧ x.2 = passR kd (E.take x.1) R1) (fun x => rcS2 m j x.1 x.2) (fun x => 24 - x.1) (0, R1) ⟨Nat.zero_le _, rfl⟩ ⟨And.intro rfl (And.intro rfl (And.intro rfl (And.intro rfl (And.intro rfl trivial)))), And.intro rfl (And.intro rfl trivial), rcS2_ok ..⟩ ?_
    intro ⟨k, R⟩ hk0
    have hk := hk0.1
    have hR := hk0.2
    dsimp only at hk hR
    have hl : R.length = 16 := by rw [hR, passR_len]; exact hl1
    by_cases hk24 : k < 24
    · have hek := he (k : Nat)
      have hst := passR_snoc kd (hE hk24) R1
      rw [← hR] at hst
      have hREk := hRE k
      generalize entAt (imS m) (k : Nat) = x at *
      have hxe : encE x = [.bl x.u, .it .i64 x.p, .st x.n, .it .i64 x.t] := rfl
      cases hu : x.u with
      | false =>
        rw [hu] at hxe
        rw [hxe] at hek
        have hno : stepR kd R x = R := if_neg (fun q => by rw [hu] at q; cases q.1)
        have hst' := hst.trans hno
        (repeat' ((conv => whnf); first | (with_reducible first | refine Spl.tt ?_ | refine Spl.ff ?_) | ((with_reducible refine callE_id ?_); (refine CallE.con ⟨_, hek, ?_⟩)) | (with_reducible first | refine draw_auto ti_ok mixed (by decide +kernel) ?_ | refine g_i64 ?_ | refine g_u64 ?_ | refine g_u8 ?_ | refine g_iq ?_ | refine g_uq ?_ | refine g_rem ?_ | refine LetN.mk ?_ | refine g_hm ?_ | refine g_hb ?_ | refine g_lit ?_ | refine g_nm8 (fun x hx hu => ?_) | refine g_n8 (fun x hx hu => ?_) | refine g_b8 (fun x hx hu => ?_) | refine g_nm (fun x hx => ?_) | refine g_im (fun x hx => ?_) | refine g_n (fun x hx => ?_) | refine g_b (fun x hx => ?_) | refine g_and ?_ | refine g_c ?_ | refine Both.mk ?_ ?_ | refine NilS.ts ?_ | refine LetE.now ?_ | refine AtD.now ?_ | refine LetC.now ?_ | refine g_some ?_ | refine g_yk ?_ | refine g_nk ?_ | refine g_y ?_ | refine g_f ?_ | refine AtA.mk' ?_ | refine Spl.pd (fun h => ?_) (fun h => ?_) | refine Spl.peq (fun h => ?_) (fun h => ?_) | refine Spl.pne (fun h => ?_) (fun h => ?_) | refine Spl.seq (fun h => ?_) (fun h => ?_) | refine Spl.sne (fun h => ?_) (fun h => ?_) | refine Spl.nt ?_ | refine Spl.mk (fun h => ?_) (fun h => ?_))))
        refine again (k + 1, R) ⟨hk24, hst'.symm⟩ (by dsimp only; omega) (And.intro rfl (And.intro rfl (And.intro rfl (And.intro rfl (And.intro (it_eq (by dsimp only; omega)) trivial))))) (And.intro rfl (And.intro rfl trivial)) (rcS2_ok ..)
      | true =>
        rw [hu] at hxe
        rw [hxe] at hek
        have hb : 0 ≤ x.p ∧ x.p < 16 ∧ 1 ≤ x.t ∧ x.t < 16 := by
          rcases hREk with q | q
          · rw [hu] at q; cases q.1
          · exact ⟨q.2.1, q.2.2.1, q.2.2.2.1, q.2.2.2.2.1⟩
        have hp := hi x.p
        have ht := hi x.t
        obtain ⟨r, hr⟩ := lt_get (l := R) (k := x.p.toNat) (by omega)
        have hif := stepR_if hu hr (hkd ⟨hb.1, hb.2.1⟩) (hkd ⟨by omega, hb.2.2.2⟩)
        have hst2 := hst.trans hif
        have htl : x.t.toNat < R.length := by omega
        cases r
        all_goals (repeat' ((conv => whnf); first | (with_reducible first | refine Spl.tt ?_ | refine Spl.ff ?_) | ((with_reducible refine callE_id ?_); first | (refine CallE.con ⟨_, hek, ?_⟩) | (refine CallE.con ⟨_, hp, ?_⟩) | (refine CallE.con ⟨_, ht, ?_⟩)) | ((with_reducible refine atA_id ?_); refine AtA.eq (ldR hr rfl rfl) ?_) | (with_reducible first | refine draw_auto ti_ok mixed (by decide +kernel) ?_ | refine g_i64 ?_ | refine g_u64 ?_ | refine g_u8 ?_ | refine g_iq ?_ | refine g_uq ?_ | refine g_rem ?_ | refine LetN.mk ?_ | refine g_hm ?_ | refine g_hb ?_ | refine g_lit ?_ | refine g_nm8 (fun x hx hu => ?_) | refine g_n8 (fun x hx hu => ?_) | refine g_b8 (fun x hx hu => ?_) | refine g_nm (fun x hx => ?_) | refine g_im (fun x hx => ?_) | refine g_n (fun x hx => ?_) | refine g_b (fun x hx => ?_) | refine g_and ?_ | refine g_c ?_ | refine Both.mk ?_ ?_ | refine NilS.ts ?_ | refine LetE.now ?_ | refine AtD.now ?_ | refine LetC.now ?_ | refine g_some ?_ | refine g_yk ?_ | refine g_nk ?_ | refine g_y ?_ | refine g_f ?_ | refine AtA.mk' ?_ | refine Spl.pd (fun h => ?_) (fun h => ?_) | refine Spl.peq (fun h => ?_) (fun h => ?_) | refine Spl.pne (fun h => ?_) (fun h => ?_) | refine Spl.seq (fun h => ?_) (fun h => ?_) | refine Spl.sne (fun h => ?_) (fun h => ?_) | refine Spl.nt ?_ | refine Spl.mk (fun h => ?_) (fun h => ?_))))
        all_goals first
          | (refine again (k + 1, R) ⟨hk24, Eq.symm (hst2.trans (if_neg (fun q => by first | (cases q.1; done) | exact (by assumption : ¬ _) q.2.1 | exact q.2.2 (by assumption))))⟩ (by dsimp only; omega) (And.intro rfl (And.intro rfl (And.intro rfl (And.intro rfl (And.intro (it_eq (by dsimp only; omega)) trivial))))) (And.intro rfl (And.intro rfl trivial)) (rcS2_ok ..); done)
          | (refine again (k + 1, R.set x.t.toNat true) ⟨hk24, Eq.symm (hst2.trans (if_pos ⟨rfl, by assumption, by assumption⟩))⟩ (by dsimp only; omega) (And.intro rfl (And.intro rfl (And.intro rfl (And.intro rfl (And.intro (it_eq (by dsimp only; omega)) trivial))))) (And.intro rfl (And.intro (cells_eq rfl (stR htl rfl rfl)) trivial)) (rcS2_ok ..); done)
    · have hkE : E.take k = E := List.take_of_length_le (by omega)
      rw [hkE, ← hnext] at hR
      (repeat' ((conv => whnf); first | (with_reducible first | refine Spl.tt ?_ | refine Spl.ff ?_) | (with_reducible first | refine draw_auto ti_ok mixed (by decide +kernel) ?_ | refine g_i64 ?_ | refine g_u64 ?_ | refine g_u8 ?_ | refine g_iq ?_ | refine g_uq ?_ | refine g_rem ?_ | refine LetN.mk ?_ | refine g_hm ?_ | refine g_hb ?_ | refine g_lit ?_ | refine g_nm8 (fun x hx hu => ?_) | refine g_n8 (fun x hx hu => ?_) | refine g_b8 (fun x hx hu => ?_) | refine g_nm (fun x hx => ?_) | refine g_im (fun x hx => ?_) | refine g_n (fun x hx => ?_) | refine g_b (fun x hx => ?_) | refine g_and ?_ | refine g_c ?_ | refine Both.mk ?_ ?_ | refine NilS.ts ?_ | refine LetE.now ?_ | refine AtD.now ?_ | refine LetC.now ?_ | refine g_some ?_ | refine g_yk ?_ | refine g_nk ?_ | refine g_y ?_ | refine g_f ?_ | refine AtA.mk' ?_ | refine Spl.pd (fun h => ?_) (fun h => ?_) | refine Spl.peq (fun h => ?_) (fun h => ?_) | refine Spl.pne (fun h => ?_) (fun h => ?_) | refine Spl.seq (fun h => ?_) (fun h => ?_) | refine Spl.sne (fun h => ?_) (fun h => ?_) | refine Spl.nt ?_ | refine Spl.mk (fun h => ?_) (fun h => ?_))))
      refine again (j + 1, R) ⟨hj16, hR⟩ (by dsimp only; omega) (And.intro rfl (And.intro rfl (And.intro rfl (And.intro (it_eq (by dsimp only; omega)) trivial)))) (And.intro rfl (And.intro rfl trivial)) (rcS_ok ..)
  · have h16 : j = 16 := by omega
    rw [h16] at hR1
    (repeat' ((conv => whnf); first | (with_reducible first | refine Spl.tt ?_ | refine Spl.ff ?_) | ((with_reducible refine atA_id ?_); refine AtA.eq (ldRs hl1 rfl rfl) ?_) | (with_reducible first | refine draw_auto ti_ok mixed (by decide +kernel) ?_ | refine g_i64 ?_ | refine g_u64 ?_ | refine g_u8 ?_ | refine g_iq ?_ | refine g_uq ?_ | refine g_rem ?_ | refine LetN.mk ?_ | refine g_hm ?_ | refine g_hb ?_ | refine g_lit ?_ | refine g_nm8 (fun x hx hu => ?_) | refine g_n8 (fun x hx hu => ?_) | refine g_b8 (fun x hx hu => ?_) | refine g_nm (fun x hx => ?_) | refine g_im (fun x hx => ?_) | refine g_n (fun x hx => ?_) | refine g_b (fun x hx => ?_) | refine g_and ?_ | refine g_c ?_ | refine Both.mk ?_ ?_ | refine NilS.ts ?_ | refine LetE.now ?_ | refine AtD.now ?_ | refine LetC.now ?_ | refine g_some ?_ | refine g_yk ?_ | refine g_nk ?_ | refine g_y ?_ | refine g_f ?_ | refine AtA.mk' ?_ | refine Spl.pd (fun h => ?_) (fun h => ?_) | refine Spl.peq (fun h => ?_) (fun h => ?_) | refine Spl.pne (fun h => ?_) (fun h => ?_) | refine Spl.seq (fun h => ?_) (fun h => ?_) | refine Spl.sne (fun h => ?_) (fun h => ?_) | refine Spl.nt ?_ | refine Spl.mk (fun h => ?_) (fun h => ?_))))
    conv => whnf
    generalize hv : ldA _ 0 _ = v
    have hv' : v = .dg 16 (R1.map D.bl) := by
      rw [← hv]
      refine ldRs' hl1 ?_ rfl rfl
      show [] ++ _ ++ List.drop (0 + 16) ((F16.map D.bl).map AV.d) = _
      rw [List.nil_append, show List.drop (0 + 16) ((F16.map D.bl).map AV.d) = [] from rfl, List.append_nil]
    rw [hv']
    show AV.dg 16 (R1.map D.bl) = _
    rw [hR1]
end Go.Proofs.YtenomegafkileaaGreatDoor

/- The document's answer: numbers; problems. Conditions: none. -/
namespace Go.Proofs.YtenomegafkileaaGreatDoor
open Go.Sy
set_option maxRecDepth 100000
set_option linter.all false
def nmR (R : List Bool) (k : Nat) : List Nat := (List.range k).filter fun i => R.getD i false
def vN (l : List Nat) : List (List D) := l.map fun i : Nat => [.it .i64 (i : Nat)]
theorem nmR_yes {R : List Bool} {k : Nat} (h : R[k]? = some true) : nmR R (k + 1) = nmR R k ++ [k] := by
  unfold nmR
  rw [List.range_succ, List.filter_append]
  have : R.getD k false = true := by rw [List.getD_eq_getElem?_getD, h]; rfl
  rw [List.filter_cons, if_pos this]; rfl
theorem nmR_no {R : List Bool} {k : Nat} (h : R[k]? = some false) : nmR R (k + 1) = nmR R k := by
  unfold nmR
  rw [List.range_succ, List.filter_append]
  have : ¬ R.getD k false = true := by rw [List.getD_eq_getElem?_getD, h]; simp
  rw [List.filter_cons, if_neg this]; simp
theorem nmR_len (R : List Bool) (k : Nat) : (nmR R k).length ≤ k := by
  unfold nmR
  exact Nat.le_trans (List.length_filter_le _ _) (by rw [List.length_range]; exact Nat.le_refl _)
theorem vN_len (l : List Nat) : (vN l).length = l.length := List.length_map ..
theorem down1_d (n : Nat) (l : List D) : (l.map AV.d).map (AV.down1 n) = l.map AV.d := by rw [List.map_map]; rfl
def nbS (m : List (List UInt8)) (R : List Bool) (k : Nat) : S := ⟨[(0, .d (encM m)), (3, .ts 1 (vN (nmR R k)) 1), (4, .ptr 2 0), (5, .d (.it .i64 (k : Nat)))], [(1, .tail 3 true), (2, .cells 16 ((R.map D.bl).map .d))], 3⟩
theorem nbS_ok (m : List (List UInt8)) (R : List Bool) (k : Nat) : (nbS m R k).ok = true := by
  unfold nbS
  simp only [S.ok, List.all_cons, List.all_nil, Ob.lt, all_d]; rfl
theorem ldRp {R : List Bool} {n : Nat} {b : Bool} {ty : Ty} {off : Nat} (hb : R[n]? = some b) (ha : ty.kd.agg = false) (ho : off = 0 + n * 1) : ldA ty off ((R.map D.bl).map AV.d) = .d (.bl b) := ldR hb ha ho
set_option maxHeartbeats 8000000 in
theorem refNum_ok (m : List (List UInt8)) (hm : ImOK m) : FnC Tryz.prog 12 [.d (encM m)] (.d (.fs 1 (vN (nmR (reachR (kdI (xI (imS m) 16)) (xE (imS m) 24)) 16)))) := by
  have hr := refRch_ok m hm
  have hl : (reachR (kdI (xI (imS m) 16)) (xE (imS m) 24)).length = 16 := by unfold reachR; rw [iterR_len]; rfl
  generalize reachR (kdI (xI (imS m) 16)) (xE (imS m) 24) = R at *
  refine FnC.intro ti_ok Tryz.func12 rfl Tryz.ntmps12 Tryz.call12 rfl (Nat.le_of_ble_eq_true rfl) rfl ?_
  (repeat' ((conv => whnf); first | (with_reducible first | refine Spl.tt ?_ | refine Spl.ff ?_) | ((with_reducible refine callE_id ?_); (refine CallE.con ⟨_, hr, ?_⟩)) | (with_reducible first | refine draw_auto ti_ok mixed (by decide +kernel) ?_ | refine g_i64 ?_ | refine g_u64 ?_ | refine g_u8 ?_ | refine g_iq ?_ | refine g_uq ?_ | refine g_rem ?_ | refine LetN.mk ?_ | refine g_hm ?_ | refine g_hb ?_ | refine g_lit ?_ | refine g_nm8 (fun x hx hu => ?_) | refine g_n8 (fun x hx hu => ?_) | refine g_b8 (fun x hx hu => ?_) | refine g_nm (fun x hx => ?_) | refine g_im (fun x hx => ?_) | refine g_n (fun x hx => ?_) | refine g_b (fun x hx => ?_) | refine g_and ?_ | refine g_c ?_ | refine Both.mk ?_ ?_ | refine NilS.ts ?_ | refine LetE.now ?_ | refine AtD.now ?_ | refine LetC.now ?_ | refine g_some ?_ | refine g_yk ?_ | refine g_nk ?_ | refine g_y ?_ | refine g_f ?_ | refine AtA.mk' ?_ | refine Spl.pd (fun h => ?_) (fun h => ?_) | refine Spl.peq (fun h => ?_) (fun h => ?_) | refine Spl.pne (fun h => ?_) (fun h => ?_) | refine Spl.seq (fun h => ?_) (fun h => ?_) | refine Spl.sne (fun h => ?_) (fun h => ?_) | refine Spl.nt ?_ | refine Spl.mk (fun h => ?_) (fun h => ?_))))
  conv => whnf
  refine loop_rule ti_ok (fun k : Nat => k ≤ 16) (nbS m R) (fun k => 16 - k) 0 (Nat.zero_le _) ⟨And.intro rfl (And.intro rfl (And.intro rfl (And.intro rfl trivial))), And.intro rfl (And.intro (cells_eq rfl (by rw [show List.take 0 _ = ([] : List AV) from rfl, List.nil_append]; exact List.append_nil _)) trivial), nbS_ok ..⟩ ?_
  intro k hk
  by_cases hk16 : k < 16
  · obtain ⟨r, hb⟩ := lt_get (l := R) (k := k) (by omega)
    have hn := nmR_len R k
    have hv := vN_len (nmR R k)
    have hbk : R[((k : Nat) : Int).toNat]? = some r := hb
    cases r
    · have hno := nmR_no hb
      (repeat' ((conv => whnf); first | (with_reducible first | refine Spl.tt ?_ | refine Spl.ff ?_) | ((with_reducible refine atA_id ?_); refine AtA.eq (ldR hbk rfl rfl) ?_) | (with_reducible first | refine draw_auto ti_ok mixed (by decide +kernel) ?_ | refine g_i64 ?_ | refine g_u64 ?_ | refine g_u8 ?_ | refine g_iq ?_ | refine g_uq ?_ | refine g_rem ?_ | refine LetN.mk ?_ | refine g_hm ?_ | refine g_hb ?_ | refine g_lit ?_ | refine g_nm8 (fun x hx hu => ?_) | refine g_n8 (fun x hx hu => ?_) | refine g_b8 (fun x hx hu => ?_) | refine g_nm (fun x hx => ?_) | refine g_im (fun x hx => ?_) | refine g_n (fun x hx => ?_) | refine g_b (fun x hx => ?_) | refine g_and ?_ | refine g_c ?_ | refine Both.mk ?_ ?_ | refine NilS.ts ?_ | refine LetE.now ?_ | refine AtD.now ?_ | refine LetC.now ?_ | refine g_some ?_ | refine g_yk ?_ | refine g_nk ?_ | refine g_y ?_ | refine g_f ?_ | refine AtA.mk' ?_ | refine Spl.pd (fun h => ?_) (fun h => ?_) | refine Spl.peq (fun h => ?_) (fun h => ?_) | refine Spl.pne (fun h => ?_) (fun h => ?_) | refine Spl.seq (fun h => ?_) (fun h => ?_) | refine Spl.sne (fun h => ?_) (fun h => ?_) | refine Spl.nt ?_ | refine Spl.mk (fun h => ?_) (fun h => ?_))))
      refine again (k + 1) hk16 (by first | omega | (dsimp only; omega)) (And.intro rfl (And.intro (ts_eq ?_) (And.intro rfl (And.intro (it_eq (by omega)) trivial)))) (And.intro rfl (And.intro rfl trivial)) (nbS_ok ..)
      rw [hno]
    · have hyes := nmR_yes hb
      (repeat' ((conv => whnf); first | (with_reducible first | refine Spl.tt ?_ | refine Spl.ff ?_) | ((with_reducible refine atA_id ?_); refine AtA.eq (ldR hbk rfl rfl) ?_) | (with_reducible first | refine draw_auto ti_ok mixed (by decide +kernel) ?_ | refine g_i64 ?_ | refine g_u64 ?_ | refine g_u8 ?_ | refine g_iq ?_ | refine g_uq ?_ | refine g_rem ?_ | refine LetN.mk ?_ | refine g_hm ?_ | refine g_hb ?_ | refine g_lit ?_ | refine g_nm8 (fun x hx hu => ?_) | refine g_n8 (fun x hx hu => ?_) | refine g_b8 (fun x hx hu => ?_) | refine g_nm (fun x hx => ?_) | refine g_im (fun x hx => ?_) | refine g_n (fun x hx => ?_) | refine g_b (fun x hx => ?_) | refine g_and ?_ | refine g_c ?_ | refine Both.mk ?_ ?_ | refine NilS.ts ?_ | refine LetE.now ?_ | refine AtD.now ?_ | refine LetC.now ?_ | refine g_some ?_ | refine g_yk ?_ | refine g_nk ?_ | refine g_y ?_ | refine g_f ?_ | refine AtA.mk' ?_ | refine Spl.pd (fun h => ?_) (fun h => ?_) | refine Spl.peq (fun h => ?_) (fun h => ?_) | refine Spl.pne (fun h => ?_) (fun h => ?_) | refine Spl.seq (fun h => ?_) (fun h => ?_) | refine Spl.sne (fun h => ?_) (fun h => ?_) | refine Spl.nt ?_ | refine Spl.mk (fun h => ?_) (fun h => ?_))))
      refine again (k + 1) hk16 (by first | omega | (dsimp only; omega)) (And.intro rfl (And.intro (ts_eq ?_) (And.intro rfl (And.intro (it_eq (by omega)) trivial)))) (And.intro rfl (And.intro (cells_eq rfl (down1_d ..)) trivial)) (nbS_ok ..)
      rw [hyes]
      unfold vN
      rw [List.map_append]; rfl
  · have h16 : k = 16 := by omega
    (repeat' ((conv => whnf); first | (with_reducible first | refine Spl.tt ?_ | refine Spl.ff ?_) | (with_reducible first | refine draw_auto ti_ok mixed (by decide +kernel) ?_ | refine g_i64 ?_ | refine g_u64 ?_ | refine g_u8 ?_ | refine g_iq ?_ | refine g_uq ?_ | refine g_rem ?_ | refine LetN.mk ?_ | refine g_hm ?_ | refine g_hb ?_ | refine g_lit ?_ | refine g_nm8 (fun x hx hu => ?_) | refine g_n8 (fun x hx hu => ?_) | refine g_b8 (fun x hx hu => ?_) | refine g_nm (fun x hx => ?_) | refine g_im (fun x hx => ?_) | refine g_n (fun x hx => ?_) | refine g_b (fun x hx => ?_) | refine g_and ?_ | refine g_c ?_ | refine Both.mk ?_ ?_ | refine NilS.ts ?_ | refine LetE.now ?_ | refine AtD.now ?_ | refine LetC.now ?_ | refine g_some ?_ | refine g_yk ?_ | refine g_nk ?_ | refine g_y ?_ | refine g_f ?_ | refine AtA.mk' ?_ | refine Spl.pd (fun h => ?_) (fun h => ?_) | refine Spl.peq (fun h => ?_) (fun h => ?_) | refine Spl.pne (fun h => ?_) (fun h => ?_) | refine Spl.seq (fun h => ?_) (fun h => ?_) | refine Spl.sne (fun h => ?_) (fun h => ?_) | refine Spl.nt ?_ | refine Spl.mk (fun h => ?_) (fun h => ?_))))
    refine fs_eq ?_
    rw [h16]
def e13 (m : List (List UInt8)) (e : Ent) (kind k j : Nat) : S := ⟨[(0, .d (encM m)), (1, .d (.it .i64 (k : Nat))), (2, .d (.it .i64 (kind : Nat))), (9, .ptr 1 0), (12, .d (.it .i64 (j : Nat)))], [(1, .cells 4 [.d (.bl true), .d (.it .i64 e.p), .d (.st e.n), .d (.it .i64 e.t)])], 2⟩
set_option maxHeartbeats 8000000 in
theorem refEnt13_ok (m : List (List UInt8)) (hm : ImOK m) (R : List Bool) (hR : R.length = 16) (kind k : Nat) (hk : k < 24) (h1 : 1 ≤ kind ∧ kind ≤ 5) : FnC Tryz.prog 20 [.d (encM m), .d (.it .i64 (k : Nat)), .d (.it .i64 (kind : Nat)), .dg 16 (R.map D.bl)] (.d (.bl (prbP (fun k => decide (17 + k < m.length ∧ entOk (imS m (17 + (k : Nat))) = false)) (xI (imS m) 16) (xE (imS m) 24) R kind k))) := by
  have hi := fun n => refInode_ok m hm n
  have he := fun n => refEntry_ok m hm n
  have hek := he (k : Nat)
  have hEg := xE_getD (imS m) hk
  have hEa := fun {j : Nat} (h : j < 24) => xE_at (imS m) h
  have hko := fun {n : Int} (h : 0 ≤ n ∧ n < 16) => kdI_at (imS m) h
  unfold kdI at hko
  have hk5 : kind = 1 ∨ kind = 2 ∨ kind = 3 ∨ kind = 4 ∨ kind = 5 := by omega
  have hREk := entAt_RE (imS m) (k : Nat)
  have hL : (m.map encS).length = m.length := List.length_map ..
  have hEl : (xE (imS m) 24).length = 24 := xE_len (imS m) 24
  generalize hxk : entAt (imS m) (k : Nat) = e at *
  generalize hEE : xE (imS m) 24 = E at *
  have hxe : encE e = [.bl e.u, .it .i64 e.p, .st e.n, .it .i64 e.t] := rfl
  rcases hk5 with rfl | hk4
  · show FnC _ _ _ (.d (.bl (decide _)))
    by_cases hin : 17 + k < m.length
    · obtain ⟨s, hs⟩ := lt_get hin
      have hs' : m[((17 : Int) + (k : Nat)).toNat]? = some s := by rw [show (17 + (k : Nat) : Int).toNat = 17 + k by omega]; exact hs
      have hsm : imS m (17 + (k : Nat)) = s := by unfold imS; rw [List.getD_eq_getElem?_getD, hs']; rfl
      have hs32 := hm s (List.mem_of_getElem? hs)
      have hof := refEntOf_ok s hs32
      unfold entOfV at hof
      refine FnC.intro ti_ok Tryz.func20 rfl Tryz.ntmps20 Tryz.call20 rfl (Nat.le_of_ble_eq_true rfl) rfl ?_
      (repeat' ((conv => whnf); first | (with_reducible first | refine Spl.tt ?_ | refine Spl.ff ?_) | ((with_reducible refine callE_id ?_); first | (refine CallE.con ⟨_, hek, ?_⟩) | (refine CallE.con ⟨_, hof, ?_⟩)) | with_reducible refine at_him (x := s) (by omega) hs' ?_ | ((with_reducible refine atA_id ?_); refine AtA.eq (ldD_sec rfl rfl hs32) ?_) | (with_reducible first | refine draw_auto ti_ok mixed (by decide +kernel) ?_ | refine g_i64 ?_ | refine g_u64 ?_ | refine g_u8 ?_ | refine g_iq ?_ | refine g_uq ?_ | refine g_rem ?_ | refine LetN.mk ?_ | refine g_hm ?_ | refine g_hb ?_ | refine g_lit ?_ | refine g_nm8 (fun x hx hu => ?_) | refine g_n8 (fun x hx hu => ?_) | refine g_b8 (fun x hx hu => ?_) | refine g_nm (fun x hx => ?_) | refine g_im (fun x hx => ?_) | refine g_n (fun x hx => ?_) | refine g_b (fun x hx => ?_) | refine g_and ?_ | refine g_c ?_ | refine Both.mk ?_ ?_ | refine NilS.ts ?_ | refine LetE.now ?_ | refine AtD.now ?_ | refine LetC.now ?_ | refine g_some ?_ | refine g_yk ?_ | refine g_nk ?_ | refine g_y ?_ | refine g_f ?_ | refine AtA.mk' ?_ | refine Spl.pd (fun h => ?_) (fun h => ?_) | refine Spl.peq (fun h => ?_) (fun h => ?_) | refine Spl.pne (fun h => ?_) (fun h => ?_) | refine Spl.seq (fun h => ?_) (fun h => ?_) | refine Spl.sne (fun h => ?_) (fun h => ?_) | refine Spl.nt ?_ | refine Spl.mk (fun h => ?_) (fun h => ?_))))
      refine bl_of ?_
      show (!entOk s) = true ↔ _
      rw [hsm]; simp [hin]
    · refine FnC.intro ti_ok Tryz.func20 rfl Tryz.ntmps20 Tryz.call20 rfl (Nat.le_of_ble_eq_true rfl) rfl ?_
      (repeat' ((conv => whnf); first | (with_reducible first | refine Spl.tt ?_ | refine Spl.ff ?_) | ((with_reducible refine callE_id ?_); first | (refine CallE.con ⟨_, hek, ?_⟩)) | (with_reducible first | refine draw_auto ti_ok mixed (by decide +kernel) ?_ | refine g_i64 ?_ | refine g_u64 ?_ | refine g_u8 ?_ | refine g_iq ?_ | refine g_uq ?_ | refine g_rem ?_ | refine LetN.mk ?_ | refine g_hm ?_ | refine g_hb ?_ | refine g_lit ?_ | refine g_nm8 (fun x hx hu => ?_) | refine g_n8 (fun x hx hu => ?_) | refine g_b8 (fun x hx hu => ?_) | refine g_nm (fun x hx => ?_) | refine g_im (fun x hx => ?_) | refine g_n (fun x hx => ?_) | refine g_b (fun x hx => ?_) | refine g_and ?_ | refine g_c ?_ | refine Both.mk ?_ ?_ | refine NilS.ts ?_ | refine LetE.now ?_ | refine AtD.now ?_ | refine LetC.now ?_ | refine g_some ?_ | refine g_yk ?_ | refine g_nk ?_ | refine g_y ?_ | refine g_f ?_ | refine AtA.mk' ?_ | refine Spl.pd (fun h => ?_) (fun h => ?_) | refine Spl.peq (fun h => ?_) (fun h => ?_) | refine Spl.pne (fun h => ?_) (fun h => ?_) | refine Spl.seq (fun h => ?_) (fun h => ?_) | refine Spl.sne (fun h => ?_) (fun h => ?_) | refine Spl.nt ?_ | refine Spl.mk (fun h => ?_) (fun h => ?_))))
      exact bl_ff (fun q => hin q.1)
  by_cases hu : e.u = false
  · have hv : prbP (fun k => decide (17 + k < m.length ∧ entOk (imS m (17 + (k : Nat))) = false)) (xI (imS m) 16) E R kind k = false := by
      unfold prbP
      rw [hEg, hu]
      rcases hk4 with rfl | rfl | rfl | rfl <;> rfl
    rw [hv]
    rw [hu] at hxe
    rw [hxe] at hek
    refine FnC.intro ti_ok Tryz.func20 rfl Tryz.ntmps20 Tryz.call20 rfl (Nat.le_of_ble_eq_true rfl) rfl ?_
    rcases hk4 with rfl | rfl | rfl | rfl
    all_goals (repeat' ((conv => whnf); first | (with_reducible first | refine Spl.tt ?_ | refine Spl.ff ?_) | ((with_reducible refine callE_id ?_); (refine CallE.con ⟨_, hek, ?_⟩)) | (with_reducible first | refine draw_auto ti_ok mixed (by decide +kernel) ?_ | refine g_i64 ?_ | refine g_u64 ?_ | refine g_u8 ?_ | refine g_iq ?_ | refine g_uq ?_ | refine g_rem ?_ | refine LetN.mk ?_ | refine g_hm ?_ | refine g_hb ?_ | refine g_lit ?_ | refine g_nm8 (fun x hx hu => ?_) | refine g_n8 (fun x hx hu => ?_) | refine g_b8 (fun x hx hu => ?_) | refine g_nm (fun x hx => ?_) | refine g_im (fun x hx => ?_) | refine g_n (fun x hx => ?_) | refine g_b (fun x hx => ?_) | refine g_and ?_ | refine g_c ?_ | refine Both.mk ?_ ?_ | refine NilS.ts ?_ | refine LetE.now ?_ | refine AtD.now ?_ | refine LetC.now ?_ | refine g_some ?_ | refine g_yk ?_ | refine g_nk ?_ | refine g_y ?_ | refine g_f ?_ | refine AtA.mk' ?_ | refine Spl.pd (fun h => ?_) (fun h => ?_) | refine Spl.peq (fun h => ?_) (fun h => ?_) | refine Spl.pne (fun h => ?_) (fun h => ?_) | refine Spl.seq (fun h => ?_) (fun h => ?_) | refine Spl.sne (fun h => ?_) (fun h => ?_) | refine Spl.nt ?_ | refine Spl.mk (fun h => ?_) (fun h => ?_))))
    all_goals rfl
  have hu : e.u = true := by simpa using hu
  rw [hu] at hxe
  rw [hxe] at hek
  have hb : 0 ≤ e.p ∧ e.p < 16 ∧ 1 ≤ e.t ∧ e.t < 16 := by
    rcases hREk with q | q
    · rw [hu] at q; cases q.1
    · exact ⟨q.2.1, q.2.2.1, q.2.2.2.1, q.2.2.2.2.1⟩
  have hp := hi e.p
  have ht := hi e.t
  have kp := hko ⟨hb.1, hb.2.1⟩
  have kt := hko ⟨by omega, hb.2.2.2⟩
  rcases hk4 with rfl | rfl | rfl | rfl
  · have hv : prbP (fun k => decide (17 + k < m.length ∧ entOk (imS m (17 + (k : Nat))) = false)) (xI (imS m) 16) E R 2 k = ((inoAt (imS m) e.t).k == 0) := by
      show ((E.getD k ent0).u && decide (((xI (imS m) 16).getD (E.getD k ent0).t.toNat ino0).k = 0)) = _
      rw [hEg, hu, kt]
      by_cases h0 : (inoAt (imS m) e.t).k = 0 <;> simp [h0]
    rw [hv]
    refine FnC.intro ti_ok Tryz.func20 rfl Tryz.ntmps20 Tryz.call20 rfl (Nat.le_of_ble_eq_true rfl) rfl ?_
    (repeat' ((conv => whnf); first | (with_reducible first | refine Spl.tt ?_ | refine Spl.ff ?_) | ((with_reducible refine callE_id ?_); first | (refine CallE.con ⟨_, hek, ?_⟩) | (refine CallE.con ⟨_, ht, ?_⟩)) | (with_reducible first | refine draw_auto ti_ok mixed (by decide +kernel) ?_ | refine g_i64 ?_ | refine g_u64 ?_ | refine g_u8 ?_ | refine g_iq ?_ | refine g_uq ?_ | refine g_rem ?_ | refine LetN.mk ?_ | refine g_hm ?_ | refine g_hb ?_ | refine g_lit ?_ | refine g_nm8 (fun x hx hu => ?_) | refine g_n8 (fun x hx hu => ?_) | refine g_b8 (fun x hx hu => ?_) | refine g_nm (fun x hx => ?_) | refine g_im (fun x hx => ?_) | refine g_n (fun x hx => ?_) | refine g_b (fun x hx => ?_) | refine g_and ?_ | refine g_c ?_ | refine Both.mk ?_ ?_ | refine NilS.ts ?_ | refine LetE.now ?_ | refine AtD.now ?_ | refine LetC.now ?_ | refine g_some ?_ | refine g_yk ?_ | refine g_nk ?_ | refine g_y ?_ | refine g_f ?_ | refine AtA.mk' ?_ | refine Spl.pd (fun h => ?_) (fun h => ?_) | refine Spl.peq (fun h => ?_) (fun h => ?_) | refine Spl.pne (fun h => ?_) (fun h => ?_) | refine Spl.seq (fun h => ?_) (fun h => ?_) | refine Spl.sne (fun h => ?_) (fun h => ?_) | refine Spl.nt ?_ | refine Spl.mk (fun h => ?_) (fun h => ?_))))
    rfl
  · obtain ⟨r, hr⟩ := lt_get (l := R) (k := e.p.toNat) (by omega)
    have hrd : R.getD e.p.toNat false = r := by rw [List.getD_eq_getElem?_getD, hr]; rfl
    have hv : prbP (fun k => decide (17 + k < m.length ∧ entOk (imS m (17 + (k : Nat))) = false)) (xI (imS m) 16) E R 3 k = (!(r && ((inoAt (imS m) e.p).k == 2))) := by
      show ((E.getD k ent0).u && !decide (sndP (xI (imS m) 16) R (E.getD k ent0))) = _
      rw [hEg, hu, Bool.true_and]
      congr 1
      rw [Bool.eq_iff_iff, decide_eq_true_eq]
      unfold sndP
      rw [hu, hrd, kp]; simp
    rw [hv]
    cases r
    all_goals refine FnC.intro ti_ok Tryz.func20 rfl Tryz.ntmps20 Tryz.call20 rfl (Nat.le_of_ble_eq_true rfl) rfl ?_
    all_goals (repeat' ((conv => whnf); first | (with_reducible first | refine Spl.tt ?_ | refine Spl.ff ?_) | ((with_reducible refine callE_id ?_); first | (refine CallE.con ⟨_, hek, ?_⟩) | (refine CallE.con ⟨_, hp, ?_⟩)) | ((with_reducible refine atA_id ?_); refine AtA.eq (ldRp hr rfl rfl) ?_) | (with_reducible first | refine draw_auto ti_ok mixed (by decide +kernel) ?_ | refine g_i64 ?_ | refine g_u64 ?_ | refine g_u8 ?_ | refine g_iq ?_ | refine g_uq ?_ | refine g_rem ?_ | refine LetN.mk ?_ | refine g_hm ?_ | refine g_hb ?_ | refine g_lit ?_ | refine g_nm8 (fun x hx hu => ?_) | refine g_n8 (fun x hx hu => ?_) | refine g_b8 (fun x hx hu => ?_) | refine g_nm (fun x hx => ?_) | refine g_im (fun x hx => ?_) | refine g_n (fun x hx => ?_) | refine g_b (fun x hx => ?_) | refine g_and ?_ | refine g_c ?_ | refine Both.mk ?_ ?_ | refine NilS.ts ?_ | refine LetE.now ?_ | refine AtD.now ?_ | refine LetC.now ?_ | refine g_some ?_ | refine g_yk ?_ | refine g_nk ?_ | refine g_y ?_ | refine g_f ?_ | refine AtA.mk' ?_ | refine Spl.pd (fun h => ?_) (fun h => ?_) | refine Spl.peq (fun h => ?_) (fun h => ?_) | refine Spl.pne (fun h => ?_) (fun h => ?_) | refine Spl.seq (fun h => ?_) (fun h => ?_) | refine Spl.sne (fun h => ?_) (fun h => ?_) | refine Spl.nt ?_ | refine Spl.mk (fun h => ?_) (fun h => ?_))))
    · rfl
    · refine bl_eq ?_
      show (!((inoAt (imS m) e.p).k == 2)) = _
      rw [Bool.true_and]
  · have hv : prbP (fun k => decide (17 + k < m.length ∧ entOk (imS m (17 + (k : Nat))) = false)) (xI (imS m) 16) E R 4 k = (true && (E.take k).any fun o => o.u && (decide (o.p = e.p) && decide (o.n = e.n))) := by
      show ((E.getD k ent0).u && _) = _
      rw [hEg, hu]
    rw [hv]
    refine FnC.intro ti_ok Tryz.func20 rfl Tryz.ntmps20 Tryz.call20 rfl (Nat.le_of_ble_eq_true rfl) rfl ?_
    (repeat' ((conv => whnf); first | (with_reducible first | refine Spl.tt ?_ | refine Spl.ff ?_) | ((with_reducible refine callE_id ?_); (refine CallE.con ⟨_, hek, ?_⟩)) | (with_reducible first | refine draw_auto ti_ok mixed (by decide +kernel) ?_ | refine g_i64 ?_ | refine g_u64 ?_ | refine g_u8 ?_ | refine g_iq ?_ | refine g_uq ?_ | refine g_rem ?_ | refine LetN.mk ?_ | refine g_hm ?_ | refine g_hb ?_ | refine g_lit ?_ | refine g_nm8 (fun x hx hu => ?_) | refine g_n8 (fun x hx hu => ?_) | refine g_b8 (fun x hx hu => ?_) | refine g_nm (fun x hx => ?_) | refine g_im (fun x hx => ?_) | refine g_n (fun x hx => ?_) | refine g_b (fun x hx => ?_) | refine g_and ?_ | refine g_c ?_ | refine Both.mk ?_ ?_ | refine NilS.ts ?_ | refine LetE.now ?_ | refine AtD.now ?_ | refine LetC.now ?_ | refine g_some ?_ | refine g_yk ?_ | refine g_nk ?_ | refine g_y ?_ | refine g_f ?_ | refine AtA.mk' ?_ | refine Spl.pd (fun h => ?_) (fun h => ?_) | refine Spl.peq (fun h => ?_) (fun h => ?_) | refine Spl.pne (fun h => ?_) (fun h => ?_) | refine Spl.seq (fun h => ?_) (fun h => ?_) | refine Spl.sne (fun h => ?_) (fun h => ?_) | refine Spl.nt ?_ | refine Spl.mk (fun h => ?_) (fun h => ?_))))
    conv => whnf
    refine loop_rule ti_ok (fun j : Nat => j ≤ k ∧ ((E.take k).take j).any (fun o => o.u && (decide (o.p = e.p) && decide (o.n = e.n))) = false) (e13 m e 4 k) (fun j => k - j) 0 ⟨Nat.zero_le _, rfl⟩ ⟨And.intro rfl (And.intro rfl (And.intro rfl (And.intro rfl (And.intro rfl trivial)))), And.intro rfl trivial, rfl⟩ ?_
    intro j ⟨hj, ha⟩
    by_cases hjk : j < k
    · have hy : (E.take k)[j]? = some (entAt (imS m) (j : Nat)) := by rw [List.getElem?_take, if_pos hjk]; exact hEa (by omega)
      have hej := he (j : Nat)
      generalize entAt (imS m) (j : Nat) = y at hy hej
      have hye : encE y = [.bl y.u, .it .i64 y.p, .st y.n, .it .i64 y.t] := rfl
      by_cases hyu : y.u = false
      all_goals (have hyu' := hyu; first | rw [hyu] at hye | (rw [show y.u = true by simpa using hyu] at hye))
      all_goals rw [hye] at hej
      all_goals (repeat' ((conv => whnf); first | (with_reducible first | refine Spl.tt ?_ | refine Spl.ff ?_) | ((with_reducible refine callE_id ?_); (refine CallE.con ⟨_, hej, ?_⟩)) | (with_reducible first | refine draw_auto ti_ok mixed (by decide +kernel) ?_ | refine g_i64 ?_ | refine g_u64 ?_ | refine g_u8 ?_ | refine g_iq ?_ | refine g_uq ?_ | refine g_rem ?_ | refine LetN.mk ?_ | refine g_hm ?_ | refine g_hb ?_ | refine g_lit ?_ | refine g_nm8 (fun x hx hu => ?_) | refine g_n8 (fun x hx hu => ?_) | refine g_b8 (fun x hx hu => ?_) | refine g_nm (fun x hx => ?_) | refine g_im (fun x hx => ?_) | refine g_n (fun x hx => ?_) | refine g_b (fun x hx => ?_) | refine g_and ?_ | refine g_c ?_ | refine Both.mk ?_ ?_ | refine NilS.ts ?_ | refine LetE.now ?_ | refine AtD.now ?_ | refine LetC.now ?_ | refine g_some ?_ | refine g_yk ?_ | refine g_nk ?_ | refine g_y ?_ | refine g_f ?_ | refine AtA.mk' ?_ | refine Spl.pd (fun h => ?_) (fun h => ?_) | refine Spl.peq (fun h => ?_) (fun h => ?_) | refine Spl.pne (fun h => ?_) (fun h => ?_) | refine Spl.seq (fun h => ?_) (fun h => ?_) | refine Spl.sne (fun h => ?_) (fun h => ?_) | refine Spl.nt ?_ | refine Spl.mk (fun h => ?_) (fun h => ?_))))
      all_goals first
        | (refine again (j + 1) ⟨hjk, any_take hy ha (by first | (simp [hyu]; done) | (simp [(by assumption : ¬ y.p = e.p)]; done) | (simp [(by assumption : ¬ y.n = e.n)]; done))⟩ (by first | omega | (dsimp only; omega)) (And.intro rfl (And.intro rfl (And.intro rfl (And.intro rfl (And.intro (it_eq (by omega)) trivial))))) (And.intro rfl trivial) rfl; done)
        | (refine bl_eq (any_r (any_yes hy hjk (by simp [(by simpa using hyu : y.u = true), (by assumption : y.p = e.p), (by assumption : y.n = e.n)]))); done)
    · have hjk2 : j = k := by omega
      rw [hjk2, List.take_of_length_le (by rw [List.length_take]; omega)] at ha
      (repeat' ((conv => whnf); first | (with_reducible first | refine Spl.tt ?_ | refine Spl.ff ?_) | (with_reducible first | refine draw_auto ti_ok mixed (by decide +kernel) ?_ | refine g_i64 ?_ | refine g_u64 ?_ | refine g_u8 ?_ | refine g_iq ?_ | refine g_uq ?_ | refine g_rem ?_ | refine LetN.mk ?_ | refine g_hm ?_ | refine g_hb ?_ | refine g_lit ?_ | refine g_nm8 (fun x hx hu => ?_) | refine g_n8 (fun x hx hu => ?_) | refine g_b8 (fun x hx hu => ?_) | refine g_nm (fun x hx => ?_) | refine g_im (fun x hx => ?_) | refine g_n (fun x hx => ?_) | refine g_b (fun x hx => ?_) | refine g_and ?_ | refine g_c ?_ | refine Both.mk ?_ ?_ | refine NilS.ts ?_ | refine LetE.now ?_ | refine AtD.now ?_ | refine LetC.now ?_ | refine g_some ?_ | refine g_yk ?_ | refine g_nk ?_ | refine g_y ?_ | refine g_f ?_ | refine AtA.mk' ?_ | refine Spl.pd (fun h => ?_) (fun h => ?_) | refine Spl.peq (fun h => ?_) (fun h => ?_) | refine Spl.pne (fun h => ?_) (fun h => ?_) | refine Spl.seq (fun h => ?_) (fun h => ?_) | refine Spl.sne (fun h => ?_) (fun h => ?_) | refine Spl.nt ?_ | refine Spl.mk (fun h => ?_) (fun h => ?_))))
      exact bl_eq (any_f ha)
  · have hv : prbP (fun k => decide (17 + k < m.length ∧ entOk (imS m (17 + (k : Nat))) = false)) (xI (imS m) 16) E R 5 k = (true && (E.take k).any fun o => o.u && decide (o.t = e.t)) := by
      show ((E.getD k ent0).u && _) = _
      rw [hEg, hu]
    rw [hv]
    refine FnC.intro ti_ok Tryz.func20 rfl Tryz.ntmps20 Tryz.call20 rfl (Nat.le_of_ble_eq_true rfl) rfl ?_
    (repeat' ((conv => whnf); first | (with_reducible first | refine Spl.tt ?_ | refine Spl.ff ?_) | ((with_reducible refine callE_id ?_); (refine CallE.con ⟨_, hek, ?_⟩)) | (with_reducible first | refine draw_auto ti_ok mixed (by decide +kernel) ?_ | refine g_i64 ?_ | refine g_u64 ?_ | refine g_u8 ?_ | refine g_iq ?_ | refine g_uq ?_ | refine g_rem ?_ | refine LetN.mk ?_ | refine g_hm ?_ | refine g_hb ?_ | refine g_lit ?_ | refine g_nm8 (fun x hx hu => ?_) | refine g_n8 (fun x hx hu => ?_) | refine g_b8 (fun x hx hu => ?_) | refine g_nm (fun x hx => ?_) | refine g_im (fun x hx => ?_) | refine g_n (fun x hx => ?_) | refine g_b (fun x hx => ?_) | refine g_and ?_ | refine g_c ?_ | refine Both.mk ?_ ?_ | refine NilS.ts ?_ | refine LetE.now ?_ | refine AtD.now ?_ | refine LetC.now ?_ | refine g_some ?_ | refine g_yk ?_ | refine g_nk ?_ | refine g_y ?_ | refine g_f ?_ | refine AtA.mk' ?_ | refine Spl.pd (fun h => ?_) (fun h => ?_) | refine Spl.peq (fun h => ?_) (fun h => ?_) | refine Spl.pne (fun h => ?_) (fun h => ?_) | refine Spl.seq (fun h => ?_) (fun h => ?_) | refine Spl.sne (fun h => ?_) (fun h => ?_) | refine Spl.nt ?_ | refine Spl.mk (fun h => ?_) (fun h => ?_))))
    conv => whnf
    refine loop_rule ti_ok (fun j : Nat => j ≤ k ∧ ((E.take k).take j).any (fun o => o.u && decide (o.t = e.t)) = false) (e13 m e 5 k) (fun j => k - j) 0 ⟨Nat.zero_le _, rfl⟩ ⟨And.intro rfl (And.intro rfl (And.intro rfl (And.intro rfl (And.intro rfl trivial)))), And.intro rfl trivial, rfl⟩ ?_
    intro j ⟨hj, ha⟩
    by_cases hjk : j < k
    · have hy : (E.take k)[j]? = some (entAt (imS m) (j : Nat)) := by rw [List.getElem?_take, if_pos hjk]; exact hEa (by omega)
      have hej := he (j : Nat)
      generalize entAt (imS m) (j : Nat) = y at hy hej
      have hye : encE y = [.bl y.u, .it .i64 y.p, .st y.n, .it .i64 y.t] := rfl
      by_cases hyu : y.u = false
      all_goals (have hyu' := hyu; first | rw [hyu] at hye | (rw [show y.u = true by simpa using hyu] at hye))
      all_goals rw [hye] at hej
      all_goals (repeat' ((conv => whnf); first | (with_reducible first | refine Spl.tt ?_ | refine Spl.ff ?_) | ((with_reducible refine callE_id ?_); (refine CallE.con ⟨_, hej, ?_⟩)) | (with_reducible first | refine draw_auto ti_ok mixed (by decide +kernel) ?_ | refine g_i64 ?_ | refine g_u64 ?_ | refine g_u8 ?_ | refine g_iq ?_ | refine g_uq ?_ | refine g_rem ?_ | refine LetN.mk ?_ | refine g_hm ?_ | refine g_hb ?_ | refine g_lit ?_ | refine g_nm8 (fun x hx hu => ?_) | refine g_n8 (fun x hx hu => ?_) | refine g_b8 (fun x hx hu => ?_) | refine g_nm (fun x hx => ?_) | refine g_im (fun x hx => ?_) | refine g_n (fun x hx => ?_) | refine g_b (fun x hx => ?_) | refine g_and ?_ | refine g_c ?_ | refine Both.mk ?_ ?_ | refine NilS.ts ?_ | refine LetE.now ?_ | refine AtD.now ?_ | refine LetC.now ?_ | refine g_some ?_ | refine g_yk ?_ | refine g_nk ?_ | refine g_y ?_ | refine g_f ?_ | refine AtA.mk' ?_ | refine Spl.pd (fun h => ?_) (fun h => ?_) | refine Spl.peq (fun h => ?_) (fun h => ?_) | refine Spl.pne (fun h => ?_) (fun h => ?_) | refine Spl.seq (fun h => ?_) (fun h => ?_) | refine Spl.sne (fun h => ?_) (fun h => ?_) | refine Spl.nt ?_ | refine Spl.mk (fun h => ?_) (fun h => ?_))))
      all_goals first
        | (refine again (j + 1) ⟨hjk, any_take hy ha (by first | (simp [hyu]; done) | (simp [(by assumption : ¬ y.t = e.t)]; done))⟩ (by first | omega | (dsimp only; omega)) (And.intro rfl (And.intro rfl (And.intro rfl (And.intro rfl (And.intro (it_eq (by omega)) trivial))))) (And.intro rfl trivial) rfl; done)
        | (refine bl_eq (any_r (any_yes hy hjk (by simp [(by simpa using hyu : y.u = true), (by assumption : y.t = e.t)]))); done)
    · have hjk2 : j = k := by omega
      rw [hjk2, List.take_of_length_le (by rw [List.length_take]; omega)] at ha
      (repeat' ((conv => whnf); first | (with_reducible first | refine Spl.tt ?_ | refine Spl.ff ?_) | (with_reducible first | refine draw_auto ti_ok mixed (by decide +kernel) ?_ | refine g_i64 ?_ | refine g_u64 ?_ | refine g_u8 ?_ | refine g_iq ?_ | refine g_uq ?_ | refine g_rem ?_ | refine LetN.mk ?_ | refine g_hm ?_ | refine g_hb ?_ | refine g_lit ?_ | refine g_nm8 (fun x hx hu => ?_) | refine g_n8 (fun x hx hu => ?_) | refine g_b8 (fun x hx hu => ?_) | refine g_nm (fun x hx => ?_) | refine g_im (fun x hx => ?_) | refine g_n (fun x hx => ?_) | refine g_b (fun x hx => ?_) | refine g_and ?_ | refine g_c ?_ | refine Both.mk ?_ ?_ | refine NilS.ts ?_ | refine LetE.now ?_ | refine AtD.now ?_ | refine LetC.now ?_ | refine g_some ?_ | refine g_yk ?_ | refine g_nk ?_ | refine g_y ?_ | refine g_f ?_ | refine AtA.mk' ?_ | refine Spl.pd (fun h => ?_) (fun h => ?_) | refine Spl.peq (fun h => ?_) (fun h => ?_) | refine Spl.pne (fun h => ?_) (fun h => ?_) | refine Spl.seq (fun h => ?_) (fun h => ?_) | refine Spl.sne (fun h => ?_) (fun h => ?_) | refine Spl.nt ?_ | refine Spl.mk (fun h => ?_) (fun h => ?_))))
      exact bl_eq (any_f ha)
end Go.Proofs.YtenomegafkileaaGreatDoor

/- The document's answer: all problems; the checker's numbers. Conditions: none. -/
namespace Go.Proofs.YtenomegafkileaaGreatDoor
open Go.Sy
set_option maxRecDepth 100000
set_option linter.all false
def encP (x : Int × Int) : List D := [.it .i64 x.1, .it .i64 x.2]
def rod (m : List (List UInt8)) (k : Nat) : Bool := decide (17 + k < m.length ∧ entOk (imS m (17 + (k : Nat))) = false)
/-- All problems. -/
def probs (od : Nat → Bool) (I : List Ino) (E : List Ent) (own : Nat → Nat) : List (Int × Int) := prbK (prbP od I E (reachR (kdI I) E)) 120 ++ prbB own 24
theorem probs_len (od : Nat → Bool) (I : List Ino) (E : List Ent) (own : Nat → Nat) : (probs od I E own).length ≤ 144 := by
  unfold probs
  rw [List.length_append]
  have := prbK_len (prbP od I E (reachR (kdI I) E)) 120
  have := prbB_len own 24
  omega
def pbS (m : List (List UInt8)) (R : List Bool) (sl : List (Nat × AV)) (L : List (Int × Int)) : S := ⟨(0, .d (encM m)) :: (3, .ts 2 (L.map encP) 1) :: (4, .ptr 2 0) :: sl, [(1, .tail 39 true), (2, .cells 16 ((R.map D.bl).map .d))], 3⟩
def s1 (a : Nat) (i : Nat) : List (Nat × AV) := [(a, .d (.it .i64 ((i + 1 : Nat) : Nat)))]
def s2 (i k : Nat) : List (Nat × AV) := [(5, .d (.it .i64 ((i + 1 : Nat) : Nat))), (6, .d (.it .i64 (k : Nat)))]
theorem pbS1_ok (m : List (List UInt8)) (R : List Bool) (a i : Nat) (L : List (Int × Int)) : (pbS m R (s1 a i) L).ok = true := by
  unfold pbS s1
  simp only [S.ok, List.all_cons, List.all_nil, Ob.lt, all_d]; rfl
theorem pbS2_ok (m : List (List UInt8)) (R : List Bool) (i k : Nat) (L : List (Int × Int)) : (pbS m R (s2 i k) L).ok = true := by
  unfold pbS s2
  simp only [S.ok, List.all_cons, List.all_nil, Ob.lt, all_d]; rfl
theorem map_encP (L : List (Int × Int)) (x : Int × Int) : (L ++ [x]).map encP = L.map encP ++ [encP x] := by rw [List.map_append]; rfl
set_option maxHeartbeats 8000000 in
theorem refChk_ok (m : List (List UInt8)) (hm : ImOK m) : FnC Tryz.prog 8 [.d (encM m)] (.d (.fs 2 ((probs (rod m) (xI (imS m) 16) (xE (imS m) 24) (fun b => refO m (b : Nat) 16)).map encP))) := by
  have hr := refRch_ok m hm
  have hl : (reachR (kdI (xI (imS m) 16)) (xE (imS m) 24)).length = 16 := by unfold reachR; rw [iterR_len]; rfl
  have hent := fun R (hR : R.length = 16) kind k hk h1 => refEnt13_ok m hm R hR kind k hk h1
  have hown := fun b hb => refOwn_ok m hm b hb
  have hent := hent _ hl
  unfold probs
  have hrod : (fun k => decide (17 + k < m.length ∧ entOk (imS m (17 + (k : Nat))) = false)) = rod m := rfl
  rw [hrod] at hent
  generalize hRR : reachR (kdI (xI (imS m) 16)) (xE (imS m) 24) = R at *
  generalize prbP (rod m) (xI (imS m) 16) (xE (imS m) 24) R = P at *
  have hPl := fun q => prbK_len P q
  have hBl := fun q => prbB_len (fun b => refO m (b : Nat) 16) q
  have hMl : ∀ L : List (Int × Int), (L.map encP).length = L.length := fun L => List.length_map ..
  refine FnC.intro ti_ok Tryz.func8 rfl Tryz.ntmps8 Tryz.call8 rfl (Nat.le_of_ble_eq_true rfl) rfl ?_
  (repeat' ((conv => whnf); first | (with_reducible first | refine Spl.tt ?_ | refine Spl.ff ?_) | ((with_reducible refine callE_id ?_); (refine CallE.con ⟨_, hr, ?_⟩)) | (with_reducible first | refine draw_auto ti_ok mixed (by decide +kernel) ?_ | refine g_i64 ?_ | refine g_u64 ?_ | refine g_u8 ?_ | refine g_iq ?_ | refine g_uq ?_ | refine g_rem ?_ | refine LetN.mk ?_ | refine g_hm ?_ | refine g_hb ?_ | refine g_lit ?_ | refine g_nm8 (fun x hx hu => ?_) | refine g_n8 (fun x hx hu => ?_) | refine g_b8 (fun x hx hu => ?_) | refine g_nm (fun x hx => ?_) | refine g_im (fun x hx => ?_) | refine g_n (fun x hx => ?_) | refine g_b (fun x hx => ?_) | refine g_and ?_ | refine g_c ?_ | refine Both.mk ?_ ?_ | refine NilS.ts ?_ | refine LetE.now ?_ | refine AtD.now ?_ | refine LetC.now ?_ | refine g_some ?_ | refine g_yk ?_ | refine g_nk ?_ | refine g_y ?_ | refine g_f ?_ | refine AtA.mk' ?_ | refine Spl.pd (fun h => ?_) (fun h => ?_) | refine Spl.peq (fun h => ?_) (fun h => ?_) | refine Spl.pne (fun h => ?_) (fun h => ?_) | refine Spl.seq (fun h => ?_) (fun h => ?_) | refine Spl.sne (fun h => ?_) (fun h => ?_) | refine Spl.nt ?_ | refine Spl.mk (fun h => ?_) (fun h => ?_))))
  conv => whnf
  refine loop_rule ti_ok (fun i : Nat => i ≤ 5) (fun i => pbS m R (s1 5 i) (prbK P (24 * i))) (fun i => 5 - i) 0 (Nat.zero_le _) ⟨And.intro rfl (And.intro rfl (And.intro rfl (And.intro rfl trivial))), And.intro rfl (And.intro (cells_eq rfl (by rw [show List.take 0 _ = ([] : List AV) from rfl, List.nil_append]; exact List.append_nil _)) trivial), pbS1_ok ..⟩ ?_
  intro i hi
  by_cases hi5 : i < 5
  · (repeat' ((conv => whnf); first | (with_reducible first | refine Spl.tt ?_ | refine Spl.ff ?_) | (with_reducible first | refine draw_auto ti_ok mixed (by decide +kernel) ?_ | refine g_i64 ?_ | refine g_u64 ?_ | refine g_u8 ?_ | refine g_iq ?_ | refine g_uq ?_ | refine g_rem ?_ | refine LetN.mk ?_ | refine g_hm ?_ | refine g_hb ?_ | refine g_lit ?_ | refine g_nm8 (fun x hx hu => ?_) | refine g_n8 (fun x hx hu => ?_) | refine g_b8 (fun x hx hu => ?_) | refine g_nm (fun x hx => ?_) | refine g_im (fun x hx => ?_) | refine g_n (fun x hx => ?_) | refine g_b (fun x hx => ?_) | refine g_and ?_ | refine g_c ?_ | refine Both.mk ?_ ?_ | refine NilS.ts ?_ | refine LetE.now ?_ | refine AtD.now ?_ | refine LetC.now ?_ | refine g_some ?_ | refine g_yk ?_ | refine g_nk ?_ | refine g_y ?_ | refine g_f ?_ | refine AtA.mk' ?_ | refine Spl.pd (fun h => ?_) (fun h => ?_) | refine Spl.peq (fun h => ?_) (fun h => ?_) | refine Spl.pne (fun h => ?_) (fun h => ?_) | refine Spl.seq (fun h => ?_) (fun h => ?_) | refine Spl.sne (fun h => ?_) (fun h => ?_) | refine Spl.nt ?_ | refine Spl.mk (fun h => ?_) (fun h => ?_))))
    conv => whnf
    refine loop_rule ti_ok (fun k : Nat => k ≤ 24) (fun k => pbS m R (s2 i k) (prbK P (24 * i + k))) (fun k => 24 - k) 0 (Nat.zero_le _) ⟨And.intro rfl (And.intro rfl (And.intro rfl (And.intro rfl (And.intro rfl trivial)))), And.intro rfl (And.intro rfl trivial), pbS2_ok ..⟩ ?_
    intro k hk
    by_cases hk24 : k < 24
    · have hek := hent (i + 1) k hk24 (by omega)
      have h1 := hPl (24 * i + k)
      have h2 := hMl (prbK P (24 * i + k))
      cases hP : P (i + 1) k
      · have hno := prbK_no (P := P) hk24 hP
        rw [hP] at hek
        (repeat' ((conv => whnf); first | (with_reducible first | refine Spl.tt ?_ | refine Spl.ff ?_) | ((with_reducible refine callE_id ?_); (refine CallE.con ⟨_, hek, ?_⟩)) | ((with_reducible refine atA_id ?_); refine AtA.eq (ldRs hl rfl rfl) ?_) | (with_reducible first | refine draw_auto ti_ok mixed (by decide +kernel) ?_ | refine g_i64 ?_ | refine g_u64 ?_ | refine g_u8 ?_ | refine g_iq ?_ | refine g_uq ?_ | refine g_rem ?_ | refine LetN.mk ?_ | refine g_hm ?_ | refine g_hb ?_ | refine g_lit ?_ | refine g_nm8 (fun x hx hu => ?_) | refine g_n8 (fun x hx hu => ?_) | refine g_b8 (fun x hx hu => ?_) | refine g_nm (fun x hx => ?_) | refine g_im (fun x hx => ?_) | refine g_n (fun x hx => ?_) | refine g_b (fun x hx => ?_) | refine g_and ?_ | refine g_c ?_ | refine Both.mk ?_ ?_ | refine NilS.ts ?_ | refine LetE.now ?_ | refine AtD.now ?_ | refine LetC.now ?_ | refine g_some ?_ | refine g_yk ?_ | refine g_nk ?_ | refine g_y ?_ | refine g_f ?_ | refine AtA.mk' ?_ | refine Spl.pd (fun h => ?_) (fun h => ?_) | refine Spl.peq (fun h => ?_) (fun h => ?_) | refine Spl.pne (fun h => ?_) (fun h => ?_) | refine Spl.seq (fun h => ?_) (fun h => ?_) | refine Spl.sne (fun h => ?_) (fun h => ?_) | refine Spl.nt ?_ | refine Spl.mk (fun h => ?_) (fun h => ?_))))
        refine again (k + 1) hk24 (by first | omega | (dsimp only; omega)) (And.intro rfl (And.intro (ts_eq ?_) (And.intro rfl (And.intro rfl (And.intro (it_eq (by omega)) trivial))))) (And.intro rfl (And.intro rfl trivial)) (pbS2_ok ..)
        rw [hno]
      · have hyes := prbK_yes (P := P) hk24 hP
        rw [hP] at hek
        (repeat' ((conv => whnf); first | (with_reducible first | refine Spl.tt ?_ | refine Spl.ff ?_) | ((with_reducible refine callE_id ?_); (refine CallE.con ⟨_, hek, ?_⟩)) | ((with_reducible refine atA_id ?_); refine AtA.eq (ldRs hl rfl rfl) ?_) | (with_reducible first | refine draw_auto ti_ok mixed (by decide +kernel) ?_ | refine g_i64 ?_ | refine g_u64 ?_ | refine g_u8 ?_ | refine g_iq ?_ | refine g_uq ?_ | refine g_rem ?_ | refine LetN.mk ?_ | refine g_hm ?_ | refine g_hb ?_ | refine g_lit ?_ | refine g_nm8 (fun x hx hu => ?_) | refine g_n8 (fun x hx hu => ?_) | refine g_b8 (fun x hx hu => ?_) | refine g_nm (fun x hx => ?_) | refine g_im (fun x hx => ?_) | refine g_n (fun x hx => ?_) | refine g_b (fun x hx => ?_) | refine g_and ?_ | refine g_c ?_ | refine Both.mk ?_ ?_ | refine NilS.ts ?_ | refine LetE.now ?_ | refine AtD.now ?_ | refine LetC.now ?_ | refine g_some ?_ | refine g_yk ?_ | refine g_nk ?_ | refine g_y ?_ | refine g_f ?_ | refine AtA.mk' ?_ | refine Spl.pd (fun h => ?_) (fun h => ?_) | refine Spl.peq (fun h => ?_) (fun h => ?_) | refine Spl.pne (fun h => ?_) (fun h => ?_) | refine Spl.seq (fun h => ?_) (fun h => ?_) | refine Spl.sne (fun h => ?_) (fun h => ?_) | refine Spl.nt ?_ | refine Spl.mk (fun h => ?_) (fun h => ?_))))
        refine again (k + 1) hk24 (by first | omega | (dsimp only; omega)) (And.intro rfl (And.intro (ts_eq ?_) (And.intro rfl (And.intro rfl (And.intro (it_eq (by omega)) trivial))))) (And.intro rfl (And.intro (cells_eq rfl (down1_d ..)) trivial)) (pbS2_ok ..)
        rw [hyes, map_encP]; rfl
    · have hke : k = 24 := by omega
      (repeat' ((conv => whnf); first | (with_reducible first | refine Spl.tt ?_ | refine Spl.ff ?_) | (with_reducible first | refine draw_auto ti_ok mixed (by decide +kernel) ?_ | refine g_i64 ?_ | refine g_u64 ?_ | refine g_u8 ?_ | refine g_iq ?_ | refine g_uq ?_ | refine g_rem ?_ | refine LetN.mk ?_ | refine g_hm ?_ | refine g_hb ?_ | refine g_lit ?_ | refine g_nm8 (fun x hx hu => ?_) | refine g_n8 (fun x hx hu => ?_) | refine g_b8 (fun x hx hu => ?_) | refine g_nm (fun x hx => ?_) | refine g_im (fun x hx => ?_) | refine g_n (fun x hx => ?_) | refine g_b (fun x hx => ?_) | refine g_and ?_ | refine g_c ?_ | refine Both.mk ?_ ?_ | refine NilS.ts ?_ | refine LetE.now ?_ | refine AtD.now ?_ | refine LetC.now ?_ | refine g_some ?_ | refine g_yk ?_ | refine g_nk ?_ | refine g_y ?_ | refine g_f ?_ | refine AtA.mk' ?_ | refine Spl.pd (fun h => ?_) (fun h => ?_) | refine Spl.peq (fun h => ?_) (fun h => ?_) | refine Spl.pne (fun h => ?_) (fun h => ?_) | refine Spl.seq (fun h => ?_) (fun h => ?_) | refine Spl.sne (fun h => ?_) (fun h => ?_) | refine Spl.nt ?_ | refine Spl.mk (fun h => ?_) (fun h => ?_))))
      refine again (i + 1) hi5 (by first | omega | (dsimp only; omega)) (And.intro rfl (And.intro (ts_eq ?_) (And.intro rfl (And.intro (it_eq (by omega)) trivial)))) (And.intro rfl (And.intro rfl trivial)) (pbS1_ok ..)
      rw [hke]; rfl
  · have hie : i = 5 := by omega
    rw [hie]
    (repeat' ((conv => whnf); first | (with_reducible first | refine Spl.tt ?_ | refine Spl.ff ?_) | (with_reducible first | refine draw_auto ti_ok mixed (by decide +kernel) ?_ | refine g_i64 ?_ | refine g_u64 ?_ | refine g_u8 ?_ | refine g_iq ?_ | refine g_uq ?_ | refine g_rem ?_ | refine LetN.mk ?_ | refine g_hm ?_ | refine g_hb ?_ | refine g_lit ?_ | refine g_nm8 (fun x hx hu => ?_) | refine g_n8 (fun x hx hu => ?_) | refine g_b8 (fun x hx hu => ?_) | refine g_nm (fun x hx => ?_) | refine g_im (fun x hx => ?_) | refine g_n (fun x hx => ?_) | refine g_b (fun x hx => ?_) | refine g_and ?_ | refine g_c ?_ | refine Both.mk ?_ ?_ | refine NilS.ts ?_ | refine LetE.now ?_ | refine AtD.now ?_ | refine LetC.now ?_ | refine g_some ?_ | refine g_yk ?_ | refine g_nk ?_ | refine g_y ?_ | refine g_f ?_ | refine AtA.mk' ?_ | refine Spl.pd (fun h => ?_) (fun h => ?_) | refine Spl.peq (fun h => ?_) (fun h => ?_) | refine Spl.pne (fun h => ?_) (fun h => ?_) | refine Spl.seq (fun h => ?_) (fun h => ?_) | refine Spl.sne (fun h => ?_) (fun h => ?_) | refine Spl.nt ?_ | refine Spl.mk (fun h => ?_) (fun h => ?_))))
    conv => whnf
    refine loop_rule ti_ok (fun q : Nat => q ≤ 24) (fun q => pbS m R (s1 7 q) (prbK P 120 ++ prbB (fun b => refO m (b : Nat) 16) q)) (fun q => 24 - q) 0 (Nat.zero_le _) ⟨And.intro rfl (And.intro (ts_eq (by rw [show prbB _ 0 = [] from rfl, List.append_nil])) (And.intro rfl (And.intro rfl trivial))), And.intro rfl (And.intro rfl trivial), pbS1_ok ..⟩ ?_
    intro q hq
    by_cases hq24 : q < 24
    · have how := hown ((q + 1 : Nat) : Int) (by omega)
      have h1 := hPl 120
      have h3 := hBl q
      have h2 := hMl (prbK P 120 ++ prbB (fun b => refO m (b : Nat) 16) q)
      rw [List.length_append] at h2
      have hyes := prbB_yes (own := fun b => refO m (b : Nat) 16) (k := q)
      have hno := prbB_no (own := fun b => refO m (b : Nat) 16) (k := q)
      by_cases ho : 1 < refO m ((q + 1 : Nat) : Int) 16
      · (repeat' ((conv => whnf); first | (with_reducible first | refine Spl.tt ?_ | refine Spl.ff ?_) | ((with_reducible refine callE_id ?_); (refine CallE.con ⟨_, how, ?_⟩)) | (with_reducible first | refine draw_auto ti_ok mixed (by decide +kernel) ?_ | refine g_i64 ?_ | refine g_u64 ?_ | refine g_u8 ?_ | refine g_iq ?_ | refine g_uq ?_ | refine g_rem ?_ | refine LetN.mk ?_ | refine g_hm ?_ | refine g_hb ?_ | refine g_lit ?_ | refine g_nm8 (fun x hx hu => ?_) | refine g_n8 (fun x hx hu => ?_) | refine g_b8 (fun x hx hu => ?_) | refine g_nm (fun x hx => ?_) | refine g_im (fun x hx => ?_) | refine g_n (fun x hx => ?_) | refine g_b (fun x hx => ?_) | refine g_and ?_ | refine g_c ?_ | refine Both.mk ?_ ?_ | refine NilS.ts ?_ | refine LetE.now ?_ | refine AtD.now ?_ | refine LetC.now ?_ | refine g_some ?_ | refine g_yk ?_ | refine g_nk ?_ | refine g_y ?_ | refine g_f ?_ | refine AtA.mk' ?_ | refine Spl.pd (fun h => ?_) (fun h => ?_) | refine Spl.peq (fun h => ?_) (fun h => ?_) | refine Spl.pne (fun h => ?_) (fun h => ?_) | refine Spl.seq (fun h => ?_) (fun h => ?_) | refine Spl.sne (fun h => ?_) (fun h => ?_) | refine Spl.nt ?_ | refine Spl.mk (fun h => ?_) (fun h => ?_))))
        refine again (q + 1) hq24 (by first | omega | (dsimp only; omega)) (And.intro rfl (And.intro (ts_eq ?_) (And.intro rfl (And.intro (it_eq (by omega)) trivial)))) (And.intro rfl (And.intro (cells_eq rfl (down1_d ..)) trivial)) (pbS1_ok ..)
        rw [hyes ho]
        refine Eq.trans ?_ (congrArg (List.map encP) (List.append_assoc _ _ _))
        refine Eq.trans ?_ (map_encP _ _).symm
        rfl
      · (repeat' ((conv => whnf); first | (with_reducible first | refine Spl.tt ?_ | refine Spl.ff ?_) | ((with_reducible refine callE_id ?_); (refine CallE.con ⟨_, how, ?_⟩)) | (with_reducible first | refine draw_auto ti_ok mixed (by decide +kernel) ?_ | refine g_i64 ?_ | refine g_u64 ?_ | refine g_u8 ?_ | refine g_iq ?_ | refine g_uq ?_ | refine g_rem ?_ | refine LetN.mk ?_ | refine g_hm ?_ | refine g_hb ?_ | refine g_lit ?_ | refine g_nm8 (fun x hx hu => ?_) | refine g_n8 (fun x hx hu => ?_) | refine g_b8 (fun x hx hu => ?_) | refine g_nm (fun x hx => ?_) | refine g_im (fun x hx => ?_) | refine g_n (fun x hx => ?_) | refine g_b (fun x hx => ?_) | refine g_and ?_ | refine g_c ?_ | refine Both.mk ?_ ?_ | refine NilS.ts ?_ | refine LetE.now ?_ | refine AtD.now ?_ | refine LetC.now ?_ | refine g_some ?_ | refine g_yk ?_ | refine g_nk ?_ | refine g_y ?_ | refine g_f ?_ | refine AtA.mk' ?_ | refine Spl.pd (fun h => ?_) (fun h => ?_) | refine Spl.peq (fun h => ?_) (fun h => ?_) | refine Spl.pne (fun h => ?_) (fun h => ?_) | refine Spl.seq (fun h => ?_) (fun h => ?_) | refine Spl.sne (fun h => ?_) (fun h => ?_) | refine Spl.nt ?_ | refine Spl.mk (fun h => ?_) (fun h => ?_))))
        refine again (q + 1) hq24 (by first | omega | (dsimp only; omega)) (And.intro rfl (And.intro (ts_eq ?_) (And.intro rfl (And.intro (it_eq (by omega)) trivial)))) (And.intro rfl (And.intro rfl trivial)) (pbS1_ok ..)
        rw [hno ho]
    · have hqe : q = 24 := by omega
      rw [hqe]
      (repeat' ((conv => whnf); first | (with_reducible first | refine Spl.tt ?_ | refine Spl.ff ?_) | (with_reducible first | refine draw_auto ti_ok mixed (by decide +kernel) ?_ | refine g_i64 ?_ | refine g_u64 ?_ | refine g_u8 ?_ | refine g_iq ?_ | refine g_uq ?_ | refine g_rem ?_ | refine LetN.mk ?_ | refine g_hm ?_ | refine g_hb ?_ | refine g_lit ?_ | refine g_nm8 (fun x hx hu => ?_) | refine g_n8 (fun x hx hu => ?_) | refine g_b8 (fun x hx hu => ?_) | refine g_nm (fun x hx => ?_) | refine g_im (fun x hx => ?_) | refine g_n (fun x hx => ?_) | refine g_b (fun x hx => ?_) | refine g_and ?_ | refine g_c ?_ | refine Both.mk ?_ ?_ | refine NilS.ts ?_ | refine LetE.now ?_ | refine AtD.now ?_ | refine LetC.now ?_ | refine g_some ?_ | refine g_yk ?_ | refine g_nk ?_ | refine g_y ?_ | refine g_f ?_ | refine AtA.mk' ?_ | refine Spl.pd (fun h => ?_) (fun h => ?_) | refine Spl.peq (fun h => ?_) (fun h => ?_) | refine Spl.pne (fun h => ?_) (fun h => ?_) | refine Spl.seq (fun h => ?_) (fun h => ?_) | refine Spl.sne (fun h => ?_) (fun h => ?_) | refine Spl.nt ?_ | refine Spl.mk (fun h => ?_) (fun h => ?_))))
      rfl
theorem dg_eq {k : Nat} {a b : List D} (h : a = b) : AV.dg k a = AV.dg k b := by rw [h]
theorem ldDb {R : List Bool} {k : Nat} {b : Bool} (hb : R[k]? = some b) {ty : Ty} (ha : ty.kd.agg = false) {j : Nat} (hj : j = k * 1) : ldD ty ((R.map D.bl).drop j) = .d (.bl b) := by
  subst hj
  unfold ldD
  rw [ha, cond_false, Nat.mul_one, List.getD_eq_getElem?_getD, List.getElem?_drop, Nat.add_zero, List.getElem?_map, hb]; rfl
def rnS (d : Option Dk) (R : List Bool) (k : Nat) : S := ⟨[(0, .d (encD d)), (3, .ts 1 (vN (nmR R k)) 1), (10, .dg 16 (R.map D.bl)), (11, .d (.it .i64 (k : Nat)))], [(1, .tail 3 true)], 2⟩
set_option maxHeartbeats 8000000 in
theorem chkReached_ok (d : Option Dk) (hd : DkOK d) : FnC Tryz.prog 11 [.d (encD d)] (.d (.fs 1 (vN (nmR (reachR (kdI (xI (rdS d) 16)) (xE (rdS d) 24)) 16)))) := by
  have hr := xread_ok d hd
  have hl : (reachR (kdI (xI (rdS d) 16)) (xE (rdS d) 24)).length = 16 := by unfold reachR; rw [iterR_len]; rfl
  have hx := xok_L (rdS d) 16 24 hl
  have h193 := x_d193 (d := d) hx
  generalize reachR (kdI (xI (rdS d) 16)) (xE (rdS d) 24) = R at *
  generalize xI (rdS d) 16 = I at *
  generalize xE (rdS d) 24 = E at *
  refine FnC.intro ti_ok Tryz.func11 rfl Tryz.ntmps11 Tryz.call11 rfl (Nat.le_of_ble_eq_true rfl) rfl ?_
  (repeat' ((conv => whnf); first | (with_reducible first | refine Spl.tt ?_ | refine Spl.ff ?_) | ((with_reducible refine callE_id ?_); (refine CallE.con ⟨_, hr, ?_⟩)) | ((with_reducible refine atD_id ?_); refine AtD.eq h193 ?_) | (with_reducible first | refine draw_auto ti_ok mixed (by decide +kernel) ?_ | refine g_i64 ?_ | refine g_u64 ?_ | refine g_u8 ?_ | refine g_iq ?_ | refine g_uq ?_ | refine g_rem ?_ | refine LetN.mk ?_ | refine g_hm ?_ | refine g_hb ?_ | refine g_lit ?_ | refine g_nm8 (fun x hx hu => ?_) | refine g_n8 (fun x hx hu => ?_) | refine g_b8 (fun x hx hu => ?_) | refine g_nm (fun x hx => ?_) | refine g_im (fun x hx => ?_) | refine g_n (fun x hx => ?_) | refine g_b (fun x hx => ?_) | refine g_and ?_ | refine g_c ?_ | refine Both.mk ?_ ?_ | refine NilS.ts ?_ | refine LetE.now ?_ | refine AtD.now ?_ | refine LetC.now ?_ | refine g_some ?_ | refine g_yk ?_ | refine g_nk ?_ | refine g_y ?_ | refine g_f ?_ | refine AtA.mk' ?_ | refine Spl.pd (fun h => ?_) (fun h => ?_) | refine Spl.peq (fun h => ?_) (fun h => ?_) | refine Spl.pne (fun h => ?_) (fun h => ?_) | refine Spl.seq (fun h => ?_) (fun h => ?_) | refine Spl.sne (fun h => ?_) (fun h => ?_) | refine Spl.nt ?_ | refine Spl.mk (fun h => ?_) (fun h => ?_))))
  conv => whnf
  refine loop_rule ti_ok (fun k : Nat => k ≤ 16) (rnS d R) (fun k => 16 - k) 0 (Nat.zero_le _) ⟨And.intro rfl (And.intro rfl (And.intro (dg_eq ?_) (And.intro rfl trivial))), And.intro rfl trivial, rfl⟩ ?_
  · show List.take 16 (R.flatMap fun b => [D.bl b]) = R.map D.bl
    rw [List.map_eq_flatMap, List.take_of_length_le]
    rw [fm_len (sz := 1) (fun _ => rfl), hl]; exact Nat.le_refl _
  intro k hk
  by_cases hk16 : k < 16
  · obtain ⟨r, hb⟩ := lt_get (l := R) (k := k) (by omega)
    have hn := nmR_len R k
    have hv := vN_len (nmR R k)
    cases r
    · have hno := nmR_no hb
      (repeat' ((conv => whnf); first | (with_reducible first | refine Spl.tt ?_ | refine Spl.ff ?_) | ((with_reducible refine atA_id ?_); refine AtA.eq (ldDb hb rfl rfl) ?_) | (with_reducible first | refine draw_auto ti_ok mixed (by decide +kernel) ?_ | refine g_i64 ?_ | refine g_u64 ?_ | refine g_u8 ?_ | refine g_iq ?_ | refine g_uq ?_ | refine g_rem ?_ | refine LetN.mk ?_ | refine g_hm ?_ | refine g_hb ?_ | refine g_lit ?_ | refine g_nm8 (fun x hx hu => ?_) | refine g_n8 (fun x hx hu => ?_) | refine g_b8 (fun x hx hu => ?_) | refine g_nm (fun x hx => ?_) | refine g_im (fun x hx => ?_) | refine g_n (fun x hx => ?_) | refine g_b (fun x hx => ?_) | refine g_and ?_ | refine g_c ?_ | refine Both.mk ?_ ?_ | refine NilS.ts ?_ | refine LetE.now ?_ | refine AtD.now ?_ | refine LetC.now ?_ | refine g_some ?_ | refine g_yk ?_ | refine g_nk ?_ | refine g_y ?_ | refine g_f ?_ | refine AtA.mk' ?_ | refine Spl.pd (fun h => ?_) (fun h => ?_) | refine Spl.peq (fun h => ?_) (fun h => ?_) | refine Spl.pne (fun h => ?_) (fun h => ?_) | refine Spl.seq (fun h => ?_) (fun h => ?_) | refine Spl.sne (fun h => ?_) (fun h => ?_) | refine Spl.nt ?_ | refine Spl.mk (fun h => ?_) (fun h => ?_))))
      refine again (k + 1) hk16 (by first | omega | (dsimp only; omega)) (And.intro rfl (And.intro (ts_eq ?_) (And.intro rfl (And.intro (it_eq (by omega)) trivial)))) (And.intro rfl trivial) rfl
      rw [hno]
    · have hyes := nmR_yes hb
      (repeat' ((conv => whnf); first | (with_reducible first | refine Spl.tt ?_ | refine Spl.ff ?_) | ((with_reducible refine atA_id ?_); refine AtA.eq (ldDb hb rfl rfl) ?_) | (with_reducible first | refine draw_auto ti_ok mixed (by decide +kernel) ?_ | refine g_i64 ?_ | refine g_u64 ?_ | refine g_u8 ?_ | refine g_iq ?_ | refine g_uq ?_ | refine g_rem ?_ | refine LetN.mk ?_ | refine g_hm ?_ | refine g_hb ?_ | refine g_lit ?_ | refine g_nm8 (fun x hx hu => ?_) | refine g_n8 (fun x hx hu => ?_) | refine g_b8 (fun x hx hu => ?_) | refine g_nm (fun x hx => ?_) | refine g_im (fun x hx => ?_) | refine g_n (fun x hx => ?_) | refine g_b (fun x hx => ?_) | refine g_and ?_ | refine g_c ?_ | refine Both.mk ?_ ?_ | refine NilS.ts ?_ | refine LetE.now ?_ | refine AtD.now ?_ | refine LetC.now ?_ | refine g_some ?_ | refine g_yk ?_ | refine g_nk ?_ | refine g_y ?_ | refine g_f ?_ | refine AtA.mk' ?_ | refine Spl.pd (fun h => ?_) (fun h => ?_) | refine Spl.peq (fun h => ?_) (fun h => ?_) | refine Spl.pne (fun h => ?_) (fun h => ?_) | refine Spl.seq (fun h => ?_) (fun h => ?_) | refine Spl.sne (fun h => ?_) (fun h => ?_) | refine Spl.nt ?_ | refine Spl.mk (fun h => ?_) (fun h => ?_))))
      refine again (k + 1) hk16 (by first | omega | (dsimp only; omega)) (And.intro rfl (And.intro (ts_eq ?_) (And.intro rfl (And.intro (it_eq (by omega)) trivial)))) (And.intro rfl trivial) rfl
      rw [hyes]
      unfold vN
      rw [List.map_append]; rfl
  · have h16 : k = 16 := by omega
    (repeat' ((conv => whnf); first | (with_reducible first | refine Spl.tt ?_ | refine Spl.ff ?_) | (with_reducible first | refine draw_auto ti_ok mixed (by decide +kernel) ?_ | refine g_i64 ?_ | refine g_u64 ?_ | refine g_u8 ?_ | refine g_iq ?_ | refine g_uq ?_ | refine g_rem ?_ | refine LetN.mk ?_ | refine g_hm ?_ | refine g_hb ?_ | refine g_lit ?_ | refine g_nm8 (fun x hx hu => ?_) | refine g_n8 (fun x hx hu => ?_) | refine g_b8 (fun x hx hu => ?_) | refine g_nm (fun x hx => ?_) | refine g_im (fun x hx => ?_) | refine g_n (fun x hx => ?_) | refine g_b (fun x hx => ?_) | refine g_and ?_ | refine g_c ?_ | refine Both.mk ?_ ?_ | refine NilS.ts ?_ | refine LetE.now ?_ | refine AtD.now ?_ | refine LetC.now ?_ | refine g_some ?_ | refine g_yk ?_ | refine g_nk ?_ | refine g_y ?_ | refine g_f ?_ | refine AtA.mk' ?_ | refine Spl.pd (fun h => ?_) (fun h => ?_) | refine Spl.peq (fun h => ?_) (fun h => ?_) | refine Spl.pne (fun h => ?_) (fun h => ?_) | refine Spl.seq (fun h => ?_) (fun h => ?_) | refine Spl.sne (fun h => ?_) (fun h => ?_) | refine Spl.nt ?_ | refine Spl.mk (fun h => ?_) (fun h => ?_))))
    refine fs_eq ?_
    rw [h16]
end Go.Proofs.YtenomegafkileaaGreatDoor
