/- Contracts of the functions that the law reaches, and the law. Conditions: none. -/
import Derived.Test.YtmfokpfddponjaaGreatDoorKA
import Derived.Test.YtmfokpfddponjaaGreatDoorKB
import Derived.Test.YtmfokpfddponjaaGreatDoorSC
set_option maxRecDepth 100000
set_option linter.all false
namespace Go.Proofs.YtmfokpfddponjaaGreatDoor
open Go.Sy
def entNm (s : List UInt8) : List UInt8 := if (s.getD 3 0).toNat ≤ 16 then (s.drop 16).take (s.getD 3 0).toNat else []
def entOfR (s : List UInt8) : Ent := ⟨true, (s.getD 1 0).toNat, entNm s, (s.getD 2 0).toNat⟩
def ent0 : Ent := ⟨false, 0, [], 0⟩
def isEnt (s : List UInt8) : Prop := RE (entOfR s) ∧ s = entS (entOfR s)
instance (s : List UInt8) : Decidable (isEnt s) := by unfold isEnt; infer_instance
def entOf (s : List UInt8) : Ent := if isEnt s then entOfR s else ent0
def entOk (s : List UInt8) : Bool := decide (s = zeroS ∨ isEnt s)
def entOfV (s : List UInt8) : AV := .tup [.dg 4 (encE (entOf s)), .d (.bl (entOk s))]
theorem zero_not : ¬ isEnt zeroS := by
 intro h
 have h1 := h.1
 unfold RE entOfR at h1
 rcases h1 with h1 | h1
 ·cases h1.1
 ·have : (1:Int) ≤ ((zeroS.getD 2 0).toNat : Int) := h1.2.2.2.1
  revert this; decide
set_option maxHeartbeats 4000000 in
theorem entOf_ok (s : List UInt8) (hs : s.length = 32) : FnC Tryz.prog 71 [.dg 32 (encS s)] (entOfV s) := by
 have hz := zero_ok s hs
 have c1 := (s.getD 1 0).toNat_lt
 have c2 := (s.getD 2 0).toNat_lt
 have c3 := (s.getD 3 0).toNat_lt
 have hc := cut_ok s hs (s.getD 3 0).toNat (by omega)
 have he := ent_ok (entOfR s)
 unfold entOfV
 by_cases h0 : s = zeroS
 ·subst h0
  rw [decide_eq_true rfl] at hz
  rw [show entOf zeroS = ent0 from if_neg zero_not, show entOk zeroS = true from decide_eq_true (.inl rfl)]
  refine FnC.intro ti_ok Tryz.func71 rfl Tryz.ntmps71 Tryz.call71 rfl (Nat.le_of_ble_eq_true rfl) rfl ?_
  (repeat' ((conv=>whnf);first|with_reducible refine gA ?_|((with_reducible refine callE_id ?_); (refine CallE.con ⟨_, hz, ?_⟩)) | with_reducible refine AtA.mk' ?_|(with_reducible first|refine gB ?_|refine gZ (fun x hx hu=>?_)|refine gY (fun x hx=>?_)|refine gE ?_|refine Both.mk ?_ ?_|refine gS (fun h=>?_) (fun h=>?_)|refine Spl.nt ?_|refine Spl.mk (fun h=>?_) (fun h=>?_))))
  all_goals rfl
 rw [decide_eq_false h0] at hz
 have hEq : encE (entOfR s) = [.bl true, .it .i64 (s.getD 1 0).toNat, .st (entNm s), .it .i64 (s.getD 2 0).toNat] := rfl
 by_cases h1 : RE (entOfR s)
 ·have hel := entS_len _ h1
  rw [entR, if_pos h1] at he
  have heq := eqS s (entS (entOfR s)) (by rw [hs, hel])
  by_cases h2 : s = entS (entOfR s)
  ·rw [show entOf s = entOfR s from if_pos ⟨h1, h2⟩, show entOk s = true from decide_eq_true (.inr ⟨h1, h2⟩)]
   rw [decide_eq_true h2] at heq
   refine FnC.intro ti_ok Tryz.func71 rfl Tryz.ntmps71 Tryz.call71 rfl (Nat.le_of_ble_eq_true rfl) rfl ?_
   (repeat' ((conv=>whnf);first|with_reducible refine gA ?_|((with_reducible refine callE_id ?_); first | (refine CallE.con ⟨_, hz, ?_⟩) | (refine CallE.con ⟨_, he, ?_⟩)) | refine CallP.mk ⟨_, hc, ?_⟩ | ((with_reducible refine drawS_id ?_); (refine draw_newA ti_ok mixed ?_)) | ((with_reducible refine letC_id ?_); refine LetC.mk ((encS (entS (entOfR s))).map AV.d) (st_all _) ?_) | refine AtA.eq (ld_byte rfl (byte_at hs 1 (by decide))) ?_ | refine AtA.eq (ld_byte rfl (byte_at hs 2 (by decide))) ?_ | refine AtA.eq (ld_byte rfl (byte_at hs 3 (by decide))) ?_ | refine AtA.eq (ld_sec rfl rfl hs) ?_ | refine AtA.eq (ld_sec rfl rfl hel) ?_ | refine cond_tt (likeSS _ _ hs hel) ?_ | ((with_reducible refine exi_id ?_); refine ⟨entNm s, rfl, ?_⟩)|(with_reducible first|refine gB ?_|refine gZ (fun x hx hu=>?_)|refine gY (fun x hx=>?_)|refine gE ?_|refine Both.mk ?_ ?_|refine gS (fun h=>?_) (fun h=>?_)|refine Spl.nt ?_|refine Spl.mk (fun h=>?_) (fun h=>?_))))
   all_goals rfl
  ·rw [show entOf s = ent0 from if_neg (fun q => h2 q.2), show entOk s = false from decide_eq_false (fun q => q.elim h0 fun q => h2 q.2)]
   rw [decide_eq_false h2] at heq
   refine FnC.intro ti_ok Tryz.func71 rfl Tryz.ntmps71 Tryz.call71 rfl (Nat.le_of_ble_eq_true rfl) rfl ?_
   (repeat' ((conv=>whnf);first|with_reducible refine gA ?_|((with_reducible refine callE_id ?_); first | (refine CallE.con ⟨_, hz, ?_⟩) | (refine CallE.con ⟨_, he, ?_⟩)) | refine CallP.mk ⟨_, hc, ?_⟩ | ((with_reducible refine drawS_id ?_); (refine draw_newA ti_ok mixed ?_)) | ((with_reducible refine letC_id ?_); refine LetC.mk ((encS (entS (entOfR s))).map AV.d) (st_all _) ?_) | refine AtA.eq (ld_byte rfl (byte_at hs 1 (by decide))) ?_ | refine AtA.eq (ld_byte rfl (byte_at hs 2 (by decide))) ?_ | refine AtA.eq (ld_byte rfl (byte_at hs 3 (by decide))) ?_ | refine AtA.eq (ld_sec rfl rfl hs) ?_ | refine AtA.eq (ld_sec rfl rfl hel) ?_ | refine cond_tt (likeSS _ _ hs hel) ?_ | ((with_reducible refine exi_id ?_); refine ⟨entNm s, rfl, ?_⟩)|(with_reducible first|refine gB ?_|refine gZ (fun x hx hu=>?_)|refine gY (fun x hx=>?_)|refine gE ?_|refine Both.mk ?_ ?_|refine gS (fun h=>?_) (fun h=>?_)|refine Spl.nt ?_|refine Spl.mk (fun h=>?_) (fun h=>?_))))
   all_goals rfl
 ·have hel : zeroS.length = 32 := rfl
  rw [entR, if_neg h1] at he
  rw [show entOf s = ent0 from if_neg (fun q => h1 q.1), show entOk s = false from decide_eq_false (fun q => q.elim h0 fun q => h1 q.1)]
  refine FnC.intro ti_ok Tryz.func71 rfl Tryz.ntmps71 Tryz.call71 rfl (Nat.le_of_ble_eq_true rfl) rfl ?_
  (repeat' ((conv=>whnf);first|with_reducible refine gA ?_|((with_reducible refine callE_id ?_); first | (refine CallE.con ⟨_, hz, ?_⟩) | (refine CallE.con ⟨_, he, ?_⟩)) | refine CallP.mk ⟨_, hc, ?_⟩ | ((with_reducible refine drawS_id ?_); (refine draw_newA ti_ok mixed ?_)) | ((with_reducible refine letC_id ?_); refine LetC.mk ((encS zeroS).map AV.d) (st_all _) ?_) | refine AtA.eq (ld_byte rfl (byte_at hs 1 (by decide))) ?_ | refine AtA.eq (ld_byte rfl (byte_at hs 2 (by decide))) ?_ | refine AtA.eq (ld_byte rfl (byte_at hs 3 (by decide))) ?_ | refine AtA.eq (ld_sec rfl rfl hs) ?_ | refine AtA.eq (ld_sec rfl rfl hel) ?_ | refine cond_tt (likeSS _ _ hs hel) ?_ | ((with_reducible refine exi_id ?_); refine ⟨entNm s, rfl, ?_⟩)|(with_reducible first|refine gB ?_|refine gZ (fun x hx hu=>?_)|refine gY (fun x hx=>?_)|refine gE ?_|refine Both.mk ?_ ?_|refine gS (fun h=>?_) (fun h=>?_)|refine Spl.nt ?_|refine Spl.mk (fun h=>?_) (fun h=>?_))))
  all_goals rfl
end Go.Proofs.YtmfokpfddponjaaGreatDoor
namespace Go.Proofs.YtmfokpfddponjaaGreatDoor
open Go.Sy
end Go.Proofs.YtmfokpfddponjaaGreatDoor
namespace Go.Proofs.YtmfokpfddponjaaGreatDoor
open Go.Sy
structure Wr where
 a : Int
 s : List UInt8
 k : Int
 i : Int
 e : Int
deriving DecidableEq
def encW (w : Wr) : List D := [.it .i64 w.a] ++ encS w.s ++ [.it .i64 w.k, .it .i64 w.i, .it .i64 w.e]
structure Dk where
 nx : Int
 safe : List (List UInt8)
 wait : List Wr
 log : List (List D)
 ep : Int
def encDk (d : Dk) : List D := [.ot (.map none), .it .i64 d.nx, .fs 32 (d.safe.map encS), .fs 36 (d.wait.map encW), .fs 38 d.log, .it .i64 d.ep]
def encD : Option Dk → D
 | none => .ot (.pointer none)
 | some d => .fp 6 (encDk d)
def DkOK : Option Dk → Prop
 | none => True
 | some d => (∀ s ∈ d.safe, s.length = 32) ∧ (∀ w ∈ d.wait, w.s.length = 32) ∧ d.safe.length ≤ 65 ∧ d.wait.length ≤ 100000
def noneB : Option Dk → Bool
 | none => true
 | some d => decide (d.safe.length = 0)
def hasP (d : Option Dk) (n : Int) : Prop :=
 match d with
 | none => False
 | some d => 0 ≤ n ∧ n < d.safe.length
instance (d : Option Dk) (n : Int) : Decidable (hasP d n) := by unfold hasP; cases d <;> infer_instance
def lastAt (n : Int) (w : List Wr) : Option (List UInt8) := (w.reverse.find? (fun x => decide (x.a = n))).map (·.s)
def rdS (d : Option Dk) (n : Int) : List UInt8 :=
 match d with
 | none => zeroS
 | some d => if 0 ≤ n ∧ n < d.safe.length then (match lastAt n d.wait with | some s => s | none => d.safe.getD n.toNat zeroS) else zeroS
def rdE (d : Option Dk) (n : Int) : Int := if hasP d n then 0 else 1
theorem rdS_len {d : Option Dk} (h : DkOK d) (n : Int) : (rdS d n).length = 32 := by
 cases d with
 | none => rfl
 | some d =>
  obtain ⟨h1, h2, _⟩ := h
  simp only [rdS]
  split
  ·split
   ·rename_i s hs
    simp only [lastAt, Option.map_eq_some_iff] at hs
    obtain ⟨w, hw, rfl⟩ := hs
    exact h2 w (by simpa using List.mem_of_find?_eq_some hw)
   ·rw [List.getD_eq_getElem?_getD]
    cases hq : d.safe[n.toNat]? with
    | none => rfl
    | some s => exact h1 s (List.mem_of_getElem? hq)
  ·rfl
theorem none_ok (d : Option Dk) : FnC Tryz.prog 39 [.d (encD d)] (.d (.bl (noneB d))) := by
 cases d with
 | none =>
  refine FnC.intro ti_ok Tryz.func39 rfl Tryz.ntmps39 Tryz.call39 rfl (Nat.le_of_ble_eq_true rfl) rfl ?_
  (repeat' ((conv=>whnf);first|with_reducible refine gA ?_|(with_reducible first|refine gB ?_|refine gZ (fun x hx hu=>?_)|refine gY (fun x hx=>?_)|refine gE ?_|refine Both.mk ?_ ?_|refine gS (fun h=>?_) (fun h=>?_)|refine Spl.nt ?_|refine Spl.mk (fun h=>?_) (fun h=>?_))))
  rfl
 | some d =>
  refine FnC.intro ti_ok Tryz.func39 rfl Tryz.ntmps39 Tryz.call39 rfl (Nat.le_of_ble_eq_true rfl) rfl ?_
  (repeat' ((conv=>whnf);first|with_reducible refine gA ?_|(with_reducible first|refine gB ?_|refine gZ (fun x hx hu=>?_)|refine gY (fun x hx=>?_)|refine gE ?_|refine Both.mk ?_ ?_|refine gS (fun h=>?_) (fun h=>?_)|refine Spl.nt ?_|refine Spl.mk (fun h=>?_) (fun h=>?_))))
  refine bl_eq ?_
  show (((d.safe.map encS).length : Int) == 0) = decide (d.safe.length = 0)
  rw [List.length_map, Bool.eq_iff_iff, beq_iff_eq, decide_eq_true_eq]; omega
theorem has_ok (d : Option Dk) (n : Int) : FnC Tryz.prog 41 [.d (encD d), .d (.it .i64 n)] (.d (.bl (decide (hasP d n)))) := by
 have hn := none_ok d
 cases d with
 | none =>
  refine FnC.intro ti_ok Tryz.func41 rfl Tryz.ntmps41 Tryz.call41 rfl (Nat.le_of_ble_eq_true rfl) rfl ?_
  (repeat' ((conv=>whnf);first|with_reducible refine gA ?_|((with_reducible refine callE_id ?_); (refine CallE.con ⟨_, hn, ?_⟩))|(with_reducible first|refine gB ?_|refine gZ (fun x hx hu=>?_)|refine gY (fun x hx=>?_)|refine gE ?_|refine Both.mk ?_ ?_|refine gS (fun h=>?_) (fun h=>?_)|refine Spl.nt ?_|refine Spl.mk (fun h=>?_) (fun h=>?_))))
  rfl
 | some d =>
  by_cases h : d.safe.length = 0
  ·rw [show noneB (some d) = true from decide_eq_true h] at hn
   refine FnC.intro ti_ok Tryz.func41 rfl Tryz.ntmps41 Tryz.call41 rfl (Nat.le_of_ble_eq_true rfl) rfl ?_
   (repeat' ((conv=>whnf);first|with_reducible refine gA ?_|((with_reducible refine callE_id ?_); (refine CallE.con ⟨_, hn, ?_⟩))|(with_reducible first|refine gB ?_|refine gZ (fun x hx hu=>?_)|refine gY (fun x hx=>?_)|refine gE ?_|refine Both.mk ?_ ?_|refine gS (fun h=>?_) (fun h=>?_)|refine Spl.nt ?_|refine Spl.mk (fun h=>?_) (fun h=>?_))))
   exact bl_ff (by show ¬ (0 ≤ n ∧ n < d.safe.length); omega)
  ·rw [show noneB (some d) = false from decide_eq_false h] at hn
   refine FnC.intro ti_ok Tryz.func41 rfl Tryz.ntmps41 Tryz.call41 rfl (Nat.le_of_ble_eq_true rfl) rfl ?_
   (repeat' ((conv=>whnf);first|with_reducible refine gA ?_|((with_reducible refine callE_id ?_); (refine CallE.con ⟨_, hn, ?_⟩))|(with_reducible first|refine gB ?_|refine gZ (fun x hx hu=>?_)|refine gY (fun x hx=>?_)|refine gE ?_|refine Both.mk ?_ ?_|refine gS (fun h=>?_) (fun h=>?_)|refine Spl.nt ?_|refine Spl.mk (fun h=>?_) (fun h=>?_))))
   all_goals first
    | exact bl_ff (by show ¬ (0 ≤ n ∧ n < d.safe.length); omega)
    | exact bl_dec (by show n < ((d.safe.map encS).length : Int) ↔ (0 ≤ n ∧ n < (d.safe.length : Int)); rw [List.length_map]; omega)
theorem at_him {α β : Type} {e : α → β} {l : List α} {n : Int} {x : α} {K : β → Prop} (h0 : 0 ≤ n ∧ n < l.length) (hx : l[n.toNat]? = some x) (h : K (e x)) :
  (0 ≤ n ∧ n < (l.map e).length) ∧ ∀ c, (l.map e)[n.toNat]? = some c → K c :=
 at_intm h0 fun y hy => by rw [hx] at hy; obtain rfl := Option.some.inj hy; exact h
theorem encW_len {w : Wr} (h : w.s.length = 32) : (encW w).length = 36 := by unfold encW; simp [encS_len, h]
theorem st_tk {l : List D} {n : Nat} (h : l.length = n) : l.map AV.d = [] ++ (l.take n).map AV.d ++ [] := by
 rw [List.take_of_length_le (by omega), List.nil_append, List.append_nil]
theorem lastAt_hit {n : Int} {l : List Wr} {k : Nat} {w : Wr} (h : ∀ j, j < k → ∀ x, l.reverse[j]? = some x → x.a ≠ n) (hw : l.reverse[k]? = some w) (ha : w.a = n) : lastAt n l = some w.s := by
 unfold lastAt
 have hk := (List.getElem?_eq_some_iff.1 hw).1
 rw [List.find?_eq_some_iff_getElem.2 ⟨by simpa using ha, k, hk, (List.getElem?_eq_some_iff.1 hw).2, fun j hj => by
  have := h j hj _ (List.getElem?_eq_getElem (by omega))
  simpa using this⟩]
 rfl
theorem lastAt_none {n : Int} {l : List Wr} (h : ∀ j, j < l.length → ∀ x, l.reverse[j]? = some x → x.a ≠ n) : lastAt n l = none := by
 unfold lastAt
 rw [Option.map_eq_none_iff, List.find?_eq_none]
 intro x hx
 obtain ⟨j, hj, rfl⟩ := List.getElem_of_mem hx
 have := h j (by simpa using hj) _ (List.getElem?_eq_getElem hj)
 simpa using this
theorem hpd {d : Dk} {n : Int} : hasP (some d) n ↔ (0 ≤ n ∧ n < d.safe.length) := Iff.rfl
theorem ldW {w : Wr} (hs : w.s.length = 32) {ty : Ty} (ha : ty.kd.agg = true) (hz : ty.size = 32) : ldA ty 1 ((encW w).map AV.d) = .dg 32 (encS w.s) := by
 unfold ldA
 rw [ha, cond_true, hz]
 have h1 : (((encW w).map AV.d).drop 1).take 32 = (encS w.s).map AV.d := by
  show ((encS w.s ++ _).map AV.d).take 32 = _
  rw [List.map_append, List.take_append_of_le_length (by rw [List.length_map, encS_len, hs]; exact Nat.le_refl _), List.take_of_length_le (by rw [List.length_map, encS_len, hs]; exact Nat.le_refl _)]
 rw [h1]
 unfold mkAg
 rw [allD_map]
set_option maxHeartbeats 4000000 in
theorem read_ok (d : Option Dk) (hd : DkOK d) (n : Int) : FnC Tryz.prog 19 [.d (encD d), .d (.it .i64 n)] (.tup [.dg 32 (encS (rdS d n)), .d (.it .i64 (rdE d n))]) := by
 have hh := has_ok d n
 by_cases h : hasP d n
 rotate_left
 ·rw [decide_eq_false h] at hh
  rw [show rdE d n = 1 from if_neg h, show rdS d n = zeroS by cases d with | none => rfl | some d => exact if_neg h]
  refine FnC.intro ti_ok Tryz.func19 rfl Tryz.ntmps19 Tryz.call19 rfl (Nat.le_of_ble_eq_true rfl) rfl ?_
  (repeat' ((conv=>whnf);first|with_reducible refine gA ?_|((with_reducible refine callE_id ?_); (refine CallE.con ⟨_, hh, ?_⟩)) | with_reducible refine AtA.mk' ?_|(with_reducible first|refine gB ?_|refine gZ (fun x hx hu=>?_)|refine gY (fun x hx=>?_)|refine gE ?_|refine Both.mk ?_ ?_|refine gS (fun h=>?_) (fun h=>?_)|refine Spl.nt ?_|refine Spl.mk (fun h=>?_) (fun h=>?_))))
  rfl
 rw [decide_eq_true h] at hh
 cases d with
 | none => exact h.elim
 | some d =>
  obtain ⟨hd1, hd2, hd3, hd4⟩ := hd
  obtain ⟨h0, h1⟩ := hpd.1 h
  rw [show rdE (some d) n = 0 from if_pos h, show rdS (some d) n = (match lastAt n d.wait with | some s => s | none => d.safe.getD n.toNat zeroS) from if_pos h]
  generalize hR : (match lastAt n d.wait with | some s => s | none => d.safe.getD n.toNat zeroS) = R
  refine FnC.intro ti_ok Tryz.func19 rfl Tryz.ntmps19 Tryz.call19 rfl (Nat.le_of_ble_eq_true rfl) rfl ?_
  (repeat' ((conv=>whnf);first|with_reducible refine gA ?_|((with_reducible refine callE_id ?_); first | (refine CallE.con ⟨_, hh, ?_⟩) | refine CallE.inl ?_) | with_reducible refine CallI.inl ti_ok i43 rfl ?_ | with_reducible refine AtA.mk' ?_|(with_reducible first|refine gB ?_|refine gZ (fun x hx hu=>?_)|refine gY (fun x hx=>?_)|refine gE ?_|refine Both.mk ?_ ?_|refine gS (fun h=>?_) (fun h=>?_)|refine Spl.nt ?_|refine Spl.mk (fun h=>?_) (fun h=>?_))))
  refine RangeS.intro ti_ok i66 rfl rfl ?_
  (repeat' ((conv=>whnf);first|with_reducible refine gA ?_|(with_reducible first|refine gB ?_|refine gZ (fun x hx hu=>?_)|refine gY (fun x hx=>?_)|refine gE ?_|refine Both.mk ?_ ?_|refine gS (fun h=>?_) (fun h=>?_)|refine Spl.nt ?_|refine Spl.mk (fun h=>?_) (fun h=>?_))))
  have hwl : (d.wait.map encW).length = d.wait.length := List.length_map ..
  refine loop_mem0 ti_ok (fun k : Nat => k ≤ d.wait.length ∧ ∀ j, j < k → ∀ x, d.wait.reverse[j]? = some x → x.a ≠ n) (fun k => [(0, .yld 6), (1, .ptr 4 0), (3, .d (.it .i64 ((d.wait.length : Nat) - 1 - (k : Nat))))]) (fun k => d.wait.length - k) 0 ⟨Nat.zero_le _, fun j hj => by omega⟩ ⟨rfl, rfl, it_eq (by rw [hwl]; omega), trivial⟩ rfl ?_
  intro k ⟨k1, k2⟩
  rcases Nat.lt_or_ge k d.wait.length with hkl | hkl
  ·obtain ⟨w, hw⟩ := lt_get (l := d.wait) (k := d.wait.length - 1 - k) (by omega)
   have hw' : d.wait[((d.wait.length : Int) - 1 - k).toNat]? = some w := by rw [show ((d.wait.length : Int) - 1 - k).toNat = d.wait.length - 1 - k by omega]; exact hw
   have hrev : d.wait.reverse[k]? = some w := by rw [List.getElem?_reverse hkl]; exact hw
   have hws := hd2 w (List.mem_of_getElem? hw)
   (repeat' ((conv=>whnf);first|with_reducible refine gA ?_|with_reducible refine YieldI.intro ti_ok (by with_unfolding_all exact rfl) (by with_unfolding_all exact rfl) (by with_unfolding_all exact rfl) ?_ | ((with_reducible refine letC_id ?_); first | refine LetC.mk ((encW w).map AV.d) (st_tk (encW_len hws)) ?_ | refine LetC.mk ((encS w.s).map AV.d) (st_all _) ?_) | refine AtA.eq (ldW hws rfl rfl) ?_ | with_reducible refine AtA.mk' ?_ | with_reducible refine at_him (x := w) (by omega) hw' ?_|(with_reducible first|refine gB ?_|refine gZ (fun x hx hu=>?_)|refine gY (fun x hx=>?_)|refine gE ?_|refine Both.mk ?_ ?_|refine gS (fun h=>?_) (fun h=>?_)|refine Spl.nt ?_|refine Spl.mk (fun h=>?_) (fun h=>?_))))
   ·have : R = w.s := by rw [← hR, lastAt_hit k2 hrev (by assumption)]
    subst this
    conv => whnf
    conv in (ldA _ _ _) => tactic => exact ld_sec rfl rfl hws
    rfl
   ·refine againM0 (k + 1) ⟨by omega, fun j hj x hx => ?_⟩ (by dsimp only; omega) (And.intro rfl (And.intro rfl (And.intro (it_eq (by omega)) trivial))) (by (repeat (first | exact trivial | refine And.intro rfl ?_))) rfl
    rcases Nat.lt_or_ge j k with hjk | hjk
    ·exact k2 j hjk x hx
    ·obtain rfl : j = k := by omega
     obtain rfl : w = x := Option.some.inj (hrev.symm.trans hx)
     assumption
  ·have : R = d.safe.getD n.toNat zeroS := by rw [← hR, lastAt_none (fun j hj => k2 j (by omega))]
   obtain ⟨s, hsn⟩ := lt_get (l := d.safe) (k := n.toNat) (by omega)
   have hsl := hd1 s (List.mem_of_getElem? hsn)
   rw [List.getD_eq_getElem?_getD, hsn] at this
   have this : R = s := this
   rw [this]
   (repeat' ((conv=>whnf);first|with_reducible refine gA ?_|((with_reducible refine letC_id ?_); refine LetC.mk ((encS s).map AV.d) (st_tk (by rw [encS_len]; exact hsl)) ?_) | with_reducible refine AtA.mk' ?_ | with_reducible refine at_him (x := s) (by omega) hsn ?_|(with_reducible first|refine gB ?_|refine gZ (fun x hx hu=>?_)|refine gY (fun x hx=>?_)|refine gE ?_|refine Both.mk ?_ ?_|refine gS (fun h=>?_) (fun h=>?_)|refine Spl.nt ?_|refine Spl.mk (fun h=>?_) (fun h=>?_))))
   conv => whnf
   conv in (ldA _ _ _) => tactic => exact ld_sec rfl rfl hsl
   rfl
end Go.Proofs.YtmfokpfddponjaaGreatDoor
namespace Go.Proofs.YtmfokpfddponjaaGreatDoor
open Go.Sy
def inoB (s : List UInt8) : Prop := RI (inoOfR s) ∧ s = inoS (inoOfR s)
instance (s : List UInt8) : Decidable (inoB s) := by unfold inoB; infer_instance
def inoOf (s : List UInt8) : Ino := if inoB s then inoOfR s else ino0
theorem inoOfV_eq (s : List UInt8) : inoOfV s = .tup [.dg 6 (encI (inoOf s)), .d (.bl (decide (inoB s)))] := by
 unfold inoOfV inoOf
 by_cases h : inoB s
 ·have h' : RI (inoOfR s) ∧ s = inoS (inoOfR s) := h
  rw [if_pos h', if_pos h, decide_eq_true h]
 ·have h' : ¬ (RI (inoOfR s) ∧ s = inoS (inoOfR s)) := h
  rw [if_neg h', if_neg h, decide_eq_false h]
def inoAt (f : Int → List UInt8) (n : Int) : Ino := if 0 ≤ n ∧ n < 16 then inoOf (f (1 + n)) else ino0
def entAt (f : Int → List UInt8) (k : Int) : Ent := if 0 ≤ k ∧ k < 24 then entOf (f (17 + k)) else ent0
def imS (m : List (List UInt8)) (n : Int) : List UInt8 := m.getD n.toNat zeroS
def ImOK (m : List (List UInt8)) : Prop := ∀ s ∈ m, s.length = 32
abbrev encM (m : List (List UInt8)) : D := .fs 32 (m.map encS)
theorem at_ok (d : Option Dk) (hd : DkOK d) (n : Int) : FnC Tryz.prog 29 [.d (encD d), .d (.it .i64 n)] (.dg 32 (encS (rdS d n))) := by
 have hr := read_ok d hd n
 have hl := rdS_len hd n
 refine FnC.intro ti_ok Tryz.func29 rfl Tryz.ntmps29 Tryz.call29 rfl (Nat.le_of_ble_eq_true rfl) rfl ?_
 (repeat' ((conv=>whnf);first|with_reducible refine gA ?_|((with_reducible refine callE_id ?_); (refine CallE.con ⟨_, hr, ?_⟩)) | ((with_reducible refine letC_id ?_); refine LetC.mk ((encS (rdS d n)).map AV.d) (st_all _) ?_) | refine AtA.eq (ld_sec rfl rfl hl) ?_|(with_reducible first|refine gB ?_|refine gZ (fun x hx hu=>?_)|refine gY (fun x hx=>?_)|refine gE ?_|refine Both.mk ?_ ?_|refine gS (fun h=>?_) (fun h=>?_)|refine Spl.nt ?_|refine Spl.mk (fun h=>?_) (fun h=>?_))))
 conv => whnf
 conv in (ldA _ _ _) => tactic => exact ld_sec rfl rfl hl
 rfl
theorem inode_ok (d : Option Dk) (hd : DkOK d) (n : Int) : FnC Tryz.prog 14 [.d (encD d), .d (.it .i64 n)] (.dg 6 (encI (inoAt (rdS d) n))) := by
 by_cases h : 0 ≤ n ∧ n < 16
 ·have ha := at_ok d hd (1 + n)
  have hi := inoOf_ok (rdS d (1 + n)) (rdS_len hd _)
  rw [inoOfV_eq] at hi
  rw [show inoAt (rdS d) n = inoOf (rdS d (1 + n)) from if_pos h]
  refine FnC.intro ti_ok Tryz.func14 rfl Tryz.ntmps14 Tryz.call14 rfl (Nat.le_of_ble_eq_true rfl) rfl ?_
  (repeat' ((conv=>whnf);first|with_reducible refine gA ?_|((with_reducible refine callE_id ?_); first | (refine CallE.con ⟨_, ha, ?_⟩) | (refine CallE.con ⟨_, hi, ?_⟩))|(with_reducible first|refine gB ?_|refine gZ (fun x hx hu=>?_)|refine gY (fun x hx=>?_)|refine gE ?_|refine Both.mk ?_ ?_|refine gS (fun h=>?_) (fun h=>?_)|refine Spl.nt ?_|refine Spl.mk (fun h=>?_) (fun h=>?_))))
  rfl
 ·rw [show inoAt (rdS d) n = ino0 from if_neg h]
  refine FnC.intro ti_ok Tryz.func14 rfl Tryz.ntmps14 Tryz.call14 rfl (Nat.le_of_ble_eq_true rfl) rfl ?_
  by_cases h0 : n < 0
  all_goals (repeat' ((conv=>whnf);first|with_reducible refine gA ?_|(with_reducible first|refine gB ?_|refine gZ (fun x hx hu=>?_)|refine gY (fun x hx=>?_)|refine gE ?_|refine Both.mk ?_ ?_|refine gS (fun h=>?_) (fun h=>?_)|refine Spl.nt ?_|refine Spl.mk (fun h=>?_) (fun h=>?_))))
  all_goals first | omega | rfl
theorem entry_ok (d : Option Dk) (hd : DkOK d) (n : Int) : FnC Tryz.prog 49 [.d (encD d), .d (.it .i64 n)] (.dg 4 (encE (entAt (rdS d) n))) := by
 by_cases h : 0 ≤ n ∧ n < 24
 ·have ha := at_ok d hd (17 + n)
  have hi := entOf_ok (rdS d (17 + n)) (rdS_len hd _)
  rw [entOfV] at hi
  rw [show entAt (rdS d) n = entOf (rdS d (17 + n)) from if_pos h]
  refine FnC.intro ti_ok Tryz.func49 rfl Tryz.ntmps49 Tryz.call49 rfl (Nat.le_of_ble_eq_true rfl) rfl ?_
  (repeat' ((conv=>whnf);first|with_reducible refine gA ?_|((with_reducible refine callE_id ?_); first | (refine CallE.con ⟨_, ha, ?_⟩) | (refine CallE.con ⟨_, hi, ?_⟩))|(with_reducible first|refine gB ?_|refine gZ (fun x hx hu=>?_)|refine gY (fun x hx=>?_)|refine gE ?_|refine Both.mk ?_ ?_|refine gS (fun h=>?_) (fun h=>?_)|refine Spl.nt ?_|refine Spl.mk (fun h=>?_) (fun h=>?_))))
  rfl
 ·rw [show entAt (rdS d) n = ent0 from if_neg h]
  refine FnC.intro ti_ok Tryz.func49 rfl Tryz.ntmps49 Tryz.call49 rfl (Nat.le_of_ble_eq_true rfl) rfl ?_
  by_cases h0 : n < 0
  all_goals (repeat' ((conv=>whnf);first|with_reducible refine gA ?_|(with_reducible first|refine gB ?_|refine gZ (fun x hx hu=>?_)|refine gY (fun x hx=>?_)|refine gE ?_|refine Both.mk ?_ ?_|refine gS (fun h=>?_) (fun h=>?_)|refine Spl.nt ?_|refine Spl.mk (fun h=>?_) (fun h=>?_))))
  all_goals first | omega | rfl
end Go.Proofs.YtmfokpfddponjaaGreatDoor
namespace Go.Proofs.YtmfokpfddponjaaGreatDoor
open Go.Sy
def takP (f : Int → List UInt8) (n : Int) : Prop := n = 0 ∨ ∃ k : Nat, k < 24 ∧ (entAt f k).u = true ∧ (entAt f k).t = n
instance (f : Int → List UInt8) (n : Int) : Decidable (takP f n) := by unfold takP; infer_instance
set_option maxHeartbeats 4000000 in
theorem taken_ok (d : Option Dk) (hd : DkOK d) (n : Int) : FnC Tryz.prog 65 [.d (encD d), .d (.it .i64 n)] (.d (.bl (decide (takP (rdS d) n)))) := by
 have he := fun k => entry_ok d hd k
 refine FnC.intro ti_ok Tryz.func65 rfl Tryz.ntmps65 Tryz.call65 rfl (Nat.le_of_ble_eq_true rfl) rfl ?_
 (repeat' ((conv=>whnf);first|with_reducible refine gA ?_|((with_reducible refine callE_id ?_); refine CallE.inl ?_) | with_reducible refine CallI.inl ti_ok i87 rfl ?_ | with_reducible refine AtA.mk' ?_|(with_reducible first|refine gB ?_|refine gZ (fun x hx hu=>?_)|refine gY (fun x hx=>?_)|refine gE ?_|refine Both.mk ?_ ?_|refine gS (fun h=>?_) (fun h=>?_)|refine Spl.nt ?_|refine Spl.mk (fun h=>?_) (fun h=>?_))))
 refine RangeS.intro ti_ok i125 rfl rfl ?_
 (repeat' ((conv=>whnf);first|with_reducible refine gA ?_|(with_reducible first|refine gB ?_|refine gZ (fun x hx hu=>?_)|refine gY (fun x hx=>?_)|refine gE ?_|refine Both.mk ?_ ?_|refine gS (fun h=>?_) (fun h=>?_)|refine Spl.nt ?_|refine Spl.mk (fun h=>?_) (fun h=>?_))))
 refine loop_mem0 ti_ok (fun k : Nat => k ≤ 24 ∧ ∀ j : Nat, j < k → ¬ ((entAt (rdS d) j).u = true ∧ (entAt (rdS d) j).t = n)) (fun k : Nat => [(0, .yld 5), (1, .ptr 3 0), (5, .d (.it .i64 (k : Nat)))]) (fun k => 24 - k) 0 ⟨Nat.zero_le _, fun j hj => by omega⟩ ⟨rfl, rfl, rfl, trivial⟩ rfl ?_
 intro k ⟨k1, k2⟩
 rcases Nat.lt_or_ge k 24 with hk | hk
 ·have hek := he (k : Nat)
  cases hu : (entAt (rdS d) k).u with
  | false =>
   have hek' : encE (entAt (rdS d) k) = [.bl false, .it .i64 (entAt (rdS d) k).p, .st (entAt (rdS d) k).n, .it .i64 (entAt (rdS d) k).t] := by rw [encE, hu]
   rw [hek'] at hek
   (repeat' ((conv=>whnf);first|with_reducible refine gA ?_|((with_reducible refine callE_id ?_); (refine CallE.con ⟨_, hek, ?_⟩))|(with_reducible first|refine gB ?_|refine gZ (fun x hx hu=>?_)|refine gY (fun x hx=>?_)|refine gE ?_|refine Both.mk ?_ ?_|refine gS (fun h=>?_) (fun h=>?_)|refine Spl.nt ?_|refine Spl.mk (fun h=>?_) (fun h=>?_))))
   refine againM0 (k + 1) ⟨by omega, fun j hj => ?_⟩ (by dsimp only; omega) (And.intro rfl (And.intro rfl (And.intro (it_eq (by omega)) trivial))) (by (repeat (first | exact trivial | refine And.intro rfl ?_))) rfl
   rcases Nat.lt_or_ge j k with hjk | hjk
   ·exact k2 j hjk
   ·obtain rfl : j = k := by omega
    rw [hu]; simp
  | true =>
   have hek' : encE (entAt (rdS d) k) = [.bl true, .it .i64 (entAt (rdS d) k).p, .st (entAt (rdS d) k).n, .it .i64 (entAt (rdS d) k).t] := by rw [encE, hu]
   rw [hek'] at hek
   (repeat' ((conv=>whnf);first|with_reducible refine gA ?_|((with_reducible refine callE_id ?_); (refine CallE.con ⟨_, hek, ?_⟩)) | with_reducible refine YieldI.intro ti_ok (by with_unfolding_all exact rfl) (by with_unfolding_all exact rfl) (by with_unfolding_all exact rfl) ?_|(with_reducible first|refine gB ?_|refine gZ (fun x hx hu=>?_)|refine gY (fun x hx=>?_)|refine gE ?_|refine Both.mk ?_ ?_|refine gS (fun h=>?_) (fun h=>?_)|refine Spl.nt ?_|refine Spl.mk (fun h=>?_) (fun h=>?_))))
   ·exact bl_tt (.inr ⟨k, hk, hu, by assumption⟩)
   ·refine againM0 (k + 1) ⟨by omega, fun j hj => ?_⟩ (by dsimp only; omega) (And.intro rfl (And.intro rfl (And.intro (it_eq (by omega)) trivial))) (by (repeat (first | exact trivial | refine And.intro rfl ?_))) rfl
    rcases Nat.lt_or_ge j k with hjk | hjk
    ·exact k2 j hjk
    ·obtain rfl : j = k := by omega
     exact fun hq => (by assumption : ¬ _) hq.2
 ·(repeat' ((conv=>whnf);first|with_reducible refine gA ?_|(with_reducible first|refine gB ?_|refine gZ (fun x hx hu=>?_)|refine gY (fun x hx=>?_)|refine gE ?_|refine Both.mk ?_ ?_|refine gS (fun h=>?_) (fun h=>?_)|refine Spl.nt ?_|refine Spl.mk (fun h=>?_) (fun h=>?_))))
  refine bl_of ?_
  rw [beq_iff_eq]
  refine ⟨fun h => .inl h, fun h => h.elim id fun ⟨j, hj, h1, h2⟩ => absurd ⟨h1, h2⟩ (k2 j (by omega))⟩
def superS : List UInt8 := [70, 76, 79, 84, 0, 0, 0, 0, 0, 0, 0, 0, 0, 0, 0, 0, 0, 0, 0, 0, 0, 0, 0, 0, 0, 0, 0, 0, 0, 0, 0, 0]
theorem refSuper_ok : FnC Tryz.prog 35 [] (.dg 32 (encS superS)) := by
 refine FnC.intro ti_ok Tryz.func35 rfl Tryz.ntmps35 Tryz.call35 rfl (Nat.le_of_ble_eq_true rfl) rfl ?_
 (repeat' ((conv=>whnf);first|with_reducible refine gA ?_|with_reducible refine AtA.mk' ?_|(with_reducible first|refine gB ?_|refine gZ (fun x hx hu=>?_)|refine gY (fun x hx=>?_)|refine gE ?_|refine Both.mk ?_ ?_|refine gS (fun h=>?_) (fun h=>?_)|refine Spl.nt ?_|refine Spl.mk (fun h=>?_) (fun h=>?_))))
 rfl
end Go.Proofs.YtmfokpfddponjaaGreatDoor
namespace Go.Proofs.YtmfokpfddponjaaGreatDoor
open Go.Sy
theorem super_ok : FnC Tryz.prog 44 [] (.dg 32 (encS superS)) := by
 have hf := fits_ok 0 4
 refine FnC.intro ti_ok Tryz.func44 rfl Tryz.ntmps44 Tryz.call44 rfl (Nat.le_of_ble_eq_true rfl) rfl ?_
 (repeat' ((conv=>whnf);first|with_reducible refine gA ?_|((with_reducible refine nils_id ?_); refine NilS.vec ?_) | ((with_reducible refine opX_id ?_); refine OpX.conv ti_ok rfl rfl (by with_unfolding_all exact rfl) (by with_unfolding_all exact rfl) (by with_unfolding_all exact rfl) (Nat.le_of_ble_eq_true rfl) (by with_unfolding_all exact rfl) rfl (by with_unfolding_all exact rfl) rfl ?_) | ((with_reducible refine callE_id ?_); first | (refine CallE.con ⟨_, hf, ?_⟩) | refine CallE.inl ?_) | with_reducible refine CallI.inl ti_ok i67 rfl ?_ | with_reducible refine CallI.inl ti_ok i88 rfl ?_ | with_reducible refine AtA.mk' ?_|(with_reducible first|refine gB ?_|refine gZ (fun x hx hu=>?_)|refine gY (fun x hx=>?_)|refine gE ?_|refine Both.mk ?_ ?_|refine gS (fun h=>?_) (fun h=>?_)|refine Spl.nt ?_|refine Spl.mk (fun h=>?_) (fun h=>?_))))
 rfl
def mntP (m : List (List UInt8)) : Prop := m.length = 65 ∧ imS m 0 = superS ∧ inoB (imS m 1) ∧ (inoOf (imS m 1)).k = 2
instance (m : List (List UInt8)) : Decidable (mntP m) := by unfold mntP; infer_instance
theorem ldD_sec {ty : Ty} (ha : ty.kd.agg = true) (hz : ty.size = 32) {s : List UInt8} (hs : s.length = 32) : ldD ty (encS s) = .dg 32 (encS s) := by
 unfold ldD
 rw [ha, cond_true, hz, List.take_of_length_le (by rw [encS_len, hs]; exact Nat.le_refl _)]
theorem spl_id {b : Bool} {A B : Prop} (h : Spl b A B) : Spl b A B := h
theorem beqN {b : Bool} (h : b = true) : (!b) = false := by rw [h]; rfl
theorem beqY {b : Bool} (h : b = false) : (!b) = true := by rw [h]; rfl
set_option maxHeartbeats 4000000 in
theorem mounts_ok (m : List (List UInt8)) (hm : ImOK m) : FnC Tryz.prog 20 [.d (encM m)] (.d (.bl (decide (mntP m)))) := by
 have hml : (m.map encS).length = m.length := List.length_map ..
 by_cases h : m.length = 65
 ·obtain ⟨s0, hs0⟩ := lt_get (l := m) (k := 0) (by omega)
  obtain ⟨s1, hs1⟩ := lt_get (l := m) (k := 1) (by omega)
  have l0 := hm s0 (List.mem_of_getElem? hs0)
  have l1 := hm s1 (List.mem_of_getElem? hs1)
  have e0 : imS m 0 = s0 := by unfold imS; rw [List.getD_eq_getElem?_getD]; show (m[0]?).getD _ = _; rw [hs0]; rfl
  have e1 : imS m 1 = s1 := by unfold imS; rw [List.getD_eq_getElem?_getD]; show (m[1]?).getD _ = _; rw [hs1]; rfl
  have hs0' : m[(0 : Int).toNat]? = some s0 := hs0
  have hs1' : m[(1 : Int).toNat]? = some s1 := hs1
  have hsup := super_ok
  have hi := inoOf_ok s1 l1
  rw [inoOfV_eq] at hi
  have hP : mntP m ↔ (s0 = superS ∧ inoB s1 ∧ (inoOf s1).k = 2) := by unfold mntP; rw [e0, e1]; exact ⟨fun q => q.2, fun q => ⟨h, q⟩⟩
  have heq := eqS s0 superS (by rw [l0]; rfl)
  have hlk := likeSS s0 superS l0 rfl
  by_cases h0 : s0 = superS
  ·rw [decide_eq_true h0] at heq
   by_cases h1 : inoB s1
   all_goals (
    first | rw [decide_eq_true h1] at hi | rw [decide_eq_false h1] at hi
    refine FnC.intro ti_ok Tryz.func20 rfl Tryz.ntmps20 Tryz.call20 rfl (Nat.le_of_ble_eq_true rfl) rfl ?_
    (repeat' ((conv=>whnf);first|with_reducible refine gA ?_|with_reducible refine at_him (x := s0) (by omega) hs0' ?_ | with_reducible refine at_him (x := s1) (by omega) hs1' ?_ | ((with_reducible refine atA_id ?_); first | refine AtA.eq (ldD_sec rfl rfl l0) ?_ | refine AtA.eq (ldD_sec rfl rfl l1) ?_) | refine CallP.mk ⟨_, hsup, ?_⟩ | ((with_reducible refine callE_id ?_); first | (refine CallE.con ⟨_, hsup, ?_⟩) | (refine CallE.con ⟨_, hi, ?_⟩)) | refine cond_tt hlk ?_ | ((with_reducible refine spl_id ?_); refine Spl.no (beqN heq) ?_)|(with_reducible first|refine gB ?_|refine gZ (fun x hx hu=>?_)|refine gY (fun x hx=>?_)|refine gE ?_|refine Both.mk ?_ ?_|refine gS (fun h=>?_) (fun h=>?_)|refine Spl.nt ?_|refine Spl.mk (fun h=>?_) (fun h=>?_))))
    all_goals first | exact bl_ff (fun q => h1 (hP.1 q).2.1) | (refine bl_of ?_; rw [beq_iff_eq, hP]; exact ⟨fun q => ⟨h0, h1, q⟩, fun q => q.2.2⟩) | skip)
  ·rw [decide_eq_false h0] at heq
   refine FnC.intro ti_ok Tryz.func20 rfl Tryz.ntmps20 Tryz.call20 rfl (Nat.le_of_ble_eq_true rfl) rfl ?_
   (repeat' ((conv=>whnf);first|with_reducible refine gA ?_|with_reducible refine at_him (x := s0) (by omega) hs0' ?_ | with_reducible refine at_him (x := s1) (by omega) hs1' ?_ | ((with_reducible refine atA_id ?_); first | refine AtA.eq (ldD_sec rfl rfl l0) ?_ | refine AtA.eq (ldD_sec rfl rfl l1) ?_) | refine CallP.mk ⟨_, hsup, ?_⟩ | ((with_reducible refine callE_id ?_); first | (refine CallE.con ⟨_, hsup, ?_⟩) | (refine CallE.con ⟨_, hi, ?_⟩)) | refine cond_tt hlk ?_ | ((with_reducible refine spl_id ?_); refine Spl.yes (beqY heq) ?_)|(with_reducible first|refine gB ?_|refine gZ (fun x hx hu=>?_)|refine gY (fun x hx=>?_)|refine gE ?_|refine Both.mk ?_ ?_|refine gS (fun h=>?_) (fun h=>?_)|refine Spl.nt ?_|refine Spl.mk (fun h=>?_) (fun h=>?_))))
   all_goals exact bl_ff (fun q => h0 (hP.1 q).1)
 ·refine FnC.intro ti_ok Tryz.func20 rfl Tryz.ntmps20 Tryz.call20 rfl (Nat.le_of_ble_eq_true rfl) rfl ?_
  (repeat' ((conv=>whnf);first|with_reducible refine gA ?_|(with_reducible first|refine gB ?_|refine gZ (fun x hx hu=>?_)|refine gY (fun x hx=>?_)|refine gE ?_|refine Both.mk ?_ ?_|refine gS (fun h=>?_) (fun h=>?_)|refine Spl.nt ?_|refine Spl.mk (fun h=>?_) (fun h=>?_))))
  all_goals first | omega | exact bl_ff (fun q => h q.1)
end Go.Proofs.YtmfokpfddponjaaGreatDoor
namespace Go.Proofs.YtmfokpfddponjaaGreatDoor
open Go.Sy
def sec32 (g : Nat → UInt8) : List UInt8 := [g 0, g 1, g 2, g 3, g 4, g 5, g 6, g 7, g 8, g 9, g 10, g 11, g 12, g 13, g 14, g 15, g 16, g 17, g 18, g 19, g 20, g 21, g 22, g 23, g 24, g 25, g 26, g 27, g 28, g 29, g 30, g 31]
theorem is32 {s : List UInt8} (h : s.length = 32) : ∃ g, s = sec32 g := by
 refine ⟨fun i => s.getD i 0, ?_⟩
 refine List.ext_getElem (by rw [h]; rfl) fun i h1 h2 => ?_
 have h3 : sec32 (fun i => s.getD i 0) = (List.range 32).map (fun i => s.getD i 0) := rfl
 simp only [h3, List.getElem_map, List.getElem_range]
 rw [List.getD_eq_getElem?_getD, List.getElem?_eq_getElem h1]; rfl
theorem nilBad {K : AV → Prop} (h : K (.d (.it .i64 0))) : LookN Tryz.prog 3 3 K := ⟨.i64, 0, ⟨.i64, Tryz.underlying3⟩, fun w => Tryz.zeroValue3 w, h⟩
def encEv (w : Wr) : List D := [.it .i64 1] ++ encW w ++ [.fs 2 []]
def okW (n : Nat) (w : Wr) : Bool := decide (0 ≤ w.a ∧ w.a < n)
def wts (n : Nat) (ws : List Wr) : List Wr := (ws.filter (okW n)).map fun w => { w with e := 0 }
def dskOf (m : List (List UInt8)) (ws : List Wr) : Option Dk := if 1 ≤ m.length ∧ m.length ≤ 65 then some ⟨ws.length, m, wts m.length ws, (wts m.length ws).map encEv, 0⟩ else none
def WsOK (ws : List Wr) : Prop := ∀ w ∈ ws, w.s.length = 32
def wtsI (m : List (List UInt8)) (ws : List Wr) (i : Nat) : List Wr := wts m.length (ws.take i)
theorem wtsI_len (m : List (List UInt8)) (ws : List Wr) (i : Nat) : (wtsI m ws i).length ≤ ws.length := by
 unfold wtsI wts
 rw [List.length_map]
 exact Nat.le_trans (List.length_filter_le _ _) (by rw [List.length_take]; omega)
theorem wtsI_step (m : List (List UInt8)) {ws : List Wr} {i : Nat} {x : Wr} (hx : ws[i]? = some x) : wtsI m ws (i + 1) = if 0 ≤ x.a ∧ x.a < m.length then wtsI m ws i ++ [{ x with e := 0 }] else wtsI m ws i := by
 unfold wtsI wts
 rw [take_snoc hx, List.filter_append, List.map_append]
 by_cases h : 0 ≤ x.a ∧ x.a < m.length
 ·rw [if_pos h]
  have : okW m.length x = true := decide_eq_true h
  simp [this]
 ·rw [if_neg h]
  have : okW m.length x = false := decide_eq_false h
  simp [this]
def dA (m : List (List UInt8)) (ws : List Wr) (i : Nat) : S := ⟨[(0, .d (encM m)), (1, .d (.fs 36 (ws.map encW))), (5, .ptr 7 0), (7, .d (.it .i64 (i : Nat)))],
 [(7, .cells 6 [.d (.ot (.map none)), .d (.it .i64 (i : Nat)), .d (.fs 32 (m.map encS)), .ts 36 ((wtsI m ws i).map encW) 8, .ts 38 ((wtsI m ws i).map encEv) 9, .d (.it .i64 0)]), (8, .tail 58 true), (9, .tail 106 true)], 10⟩
set_option maxHeartbeats 8000000 in
theorem disk_ok (m : List (List UInt8)) (hm : ImOK m) (ws : List Wr) (hw : WsOK ws) (hml : m.length ≤ 1000) (hwl : ws.length ≤ 1000) : FnC Tryz.prog 5 [.d (encM m), .d (.fs 36 (ws.map encW))] (.d (encD (dskOf m ws))) := by
 have hml' : (m.map encS).length = m.length := List.length_map ..
 have hwl' : (ws.map encW).length = ws.length := List.length_map ..
 by_cases h : 1 ≤ m.length ∧ m.length ≤ 65
 ·rw [show dskOf m ws = some _ from if_pos h]
  have hne : (m.map encS).isEmpty = false := by
   cases m with
   | nil => simp at h
   | cons => rfl
  refine FnC.introW ti_ok Tryz.func5 rfl Tryz.ntmps5 Tryz.call5 rfl (Nat.le_of_ble_eq_true rfl) rfl ?_
  (repeat' ((conv=>whnf);first|with_reducible refine gA ?_|((with_reducible refine callE_id ?_); refine CallE.inl ?_) | with_reducible refine CallI.inl ti_ok i7 rfl ?_ | with_reducible refine CallI.inl ti_ok i21 rfl ?_ | with_reducible refine CallI.inl ti_ok i22 rfl ?_ | with_reducible refine Spl.no hne ?_|(with_reducible first|refine gB ?_|refine gZ (fun x hx hu=>?_)|refine gY (fun x hx=>?_)|refine gE ?_|refine Both.mk ?_ ?_|refine gS (fun h=>?_) (fun h=>?_)|refine Spl.nt ?_|refine Spl.mk (fun h=>?_) (fun h=>?_))))
  refine loop_ruleW ti_ok (fun i : Nat => i ≤ ws.length) (dA m ws) (fun i => ws.length - i) 0 (Nat.zero_le _)
   ?_ ?_
  ·refine Wk.trans (Wk.nlTs 7 3 6 36 58 (by with_unfolding_all exact rfl) (by with_unfolding_all exact rfl)) ?_
   refine Wk.trans (Wk.nlTs 7 4 6 38 106 (by with_unfolding_all exact rfl) (by with_unfolding_all exact rfl)) ?_
   exact Wk.vwL (And.intro (Vw.eq rfl) (And.intro (Vw.eq rfl) (And.intro (Vw.eq rfl) (And.intro (Vw.eq rfl) trivial))))
     (And.intro (VwO.cells _ _ _ (.cons (Vw.eq rfl) rfl (.cons (Vw.eq rfl) rfl (.cons (Vw.ts' rfl) rfl (.cons (Vw.eq rfl) rfl (.cons (Vw.eq rfl) rfl (.cons (Vw.eq rfl) rfl .nil))))))) (And.intro (VwO.same _) (And.intro (VwO.same _) trivial))) rfl
  intro i hi
  rcases Nat.lt_or_ge i ws.length with hil | hil
  ·obtain ⟨x, hx⟩ := lt_get hil
   have hxs := hw x (List.mem_of_getElem? hx)
   have hpos : m.length ≠ 0 := by omega
   have hwi : ((wtsI m ws i).map encW).length ≤ 1000 := by
    rw [List.length_map]
    exact Nat.le_trans (wtsI_len m ws i) hwl
   have hwe : ((wtsI m ws i).map encEv).length ≤ 1000 := by
    rw [List.length_map]
    exact Nat.le_trans (wtsI_len m ws i) hwl
   have hwj : (wtsI m ws i).length ≤ 1000 := Nat.le_trans (wtsI_len m ws i) hwl
   have hstep := wtsI_step m hx
   obtain ⟨xa, xs, xk, xi, xe⟩ := x
   obtain ⟨g, rfl⟩ := is32 hxs
   (repeat' ((conv=>whnf);first|with_reducible refine gA ?_|with_reducible refine at_hm hx ?_ | with_reducible refine nilBad ?_ | with_reducible refine AtA.mk' ?_ | ((with_reducible refine callE_id ?_); refine CallE.inl ?_) | ((with_reducible refine callI_id ?_); first | with_reducible refine CallI.inl ti_ok i18 rfl ?_ | with_reducible refine CallI.inl ti_ok i39 rfl ?_ | with_reducible refine CallI.inl ti_ok i41 rfl ?_ | with_reducible refine CallI.inl ti_ok i40 rfl ?_ | with_reducible refine CallI.inl ti_ok i42 rfl ?_) | ((with_reducible refine drawS_id ?_); first | refine draw_newB ti_ok mixed (by decide +kernel) ?_ | refine draw_hoist ti_ok mixed 0 (by decide +kernel) ?_)|(with_reducible first|refine gB ?_|refine gZ (fun x hx hu=>?_)|refine gY (fun x hx=>?_)|refine gE ?_|refine Both.mk ?_ ?_|refine gS (fun h=>?_) (fun h=>?_)|refine Spl.nt ?_|refine Spl.mk (fun h=>?_) (fun h=>?_))))
   all_goals refine ⟨i + 1, by omega, by dsimp only; omega, Wk.vwL (And.intro (Vw.eq rfl) (And.intro (Vw.eq rfl) (And.intro (Vw.eq rfl) (And.intro (Vw.eq (it_eq (by omega))) trivial)))) (And.intro (VwO.cells _ _ _ (.cons (Vw.eq rfl) rfl (.cons (Vw.eq (it_eq (by omega))) rfl (.cons (Vw.eq rfl) rfl (.cons (Vw.eq (ts_eq ?_)) rfl (.cons (Vw.eq (ts_eq ?_)) rfl (.cons (Vw.eq rfl) rfl .nil))))))) (And.intro (VwO.same _) (And.intro (VwO.same _) trivial))) rfl⟩
   all_goals first
    | (rw [hstep, if_pos (by dsimp only at *; omega), List.map_append]; rfl)
    | (rw [hstep, if_neg (by dsimp only at *; omega)])
  ·have hli : i = ws.length := by omega
   have hlast : wtsI m ws i = wts m.length ws := by unfold wtsI; rw [hli, List.take_length]
   (repeat' ((conv=>whnf);first|with_reducible refine gA ?_|(with_reducible first|refine gB ?_|refine gZ (fun x hx hu=>?_)|refine gY (fun x hx=>?_)|refine gE ?_|refine Both.mk ?_ ?_|refine gS (fun h=>?_) (fun h=>?_)|refine Spl.nt ?_|refine Spl.mk (fun h=>?_) (fun h=>?_))))
   refine ⟨⟨[(4, .ptr 7 0)], [(7, .cells 6 ((encDk ⟨ws.length, m, wts m.length ws, (wts m.length ws).map encEv, 0⟩).map AV.d))], 10⟩, Wk.vwL (And.intro (Vw.eq rfl) trivial) (And.intro (VwO.cells _ _ _ (.cons (Vw.eq rfl) rfl (.cons (Vw.eq (it_eq (by dsimp only; omega))) rfl (.cons (Vw.eq rfl) rfl (.cons (Vw.ts' (by rw [hlast])) rfl (.cons (Vw.ts' (by rw [hlast])) rfl (.cons (Vw.eq rfl) rfl .nil))))))) trivial) rfl, ?_⟩
   exact ⟨_, ⟨by decide, rfl⟩, rfl⟩
 ·rw [show dskOf m ws = none from if_neg h]
  refine FnC.intro ti_ok Tryz.func5 rfl Tryz.ntmps5 Tryz.call5 rfl (Nat.le_of_ble_eq_true rfl) rfl ?_
  (repeat' ((conv=>whnf);first|with_reducible refine gA ?_|((with_reducible refine callE_id ?_); refine CallE.inl ?_) | with_reducible refine CallI.inl ti_ok i7 rfl ?_ | with_reducible refine CallI.inl ti_ok i21 rfl ?_|(with_reducible first|refine gB ?_|refine gZ (fun x hx hu=>?_)|refine gY (fun x hx=>?_)|refine gE ?_|refine Both.mk ?_ ?_|refine gS (fun h=>?_) (fun h=>?_)|refine Spl.nt ?_|refine Spl.mk (fun h=>?_) (fun h=>?_))))
  all_goals first | (exfalso; omega) | skip
  all_goals refine loop_rule ti_ok (fun i : Nat => i ≤ ws.length) (fun i : Nat => ⟨[(0, .d (encM m)), (1, .d (.fs 36 (ws.map encW))), (5, .d (.ot (.pointer none))), (7, .d (.it .i64 (i : Nat)))], [], 2⟩) (fun i => ws.length - i) 0 (Nat.zero_le _) ⟨And.intro rfl (And.intro rfl (And.intro rfl (And.intro rfl trivial))), trivial, rfl⟩ ?_
  all_goals (
   intro i hi
   rcases Nat.lt_or_ge i ws.length with hil | hil
   ·obtain ⟨x, hx⟩ := lt_get hil
    have hxs := hw x (List.mem_of_getElem? hx)
    (repeat' ((conv=>whnf);first|with_reducible refine gA ?_|with_reducible refine at_hm hx ?_ | ((with_reducible refine callE_id ?_); refine CallE.inl ?_) | ((with_reducible refine callI_id ?_); first | with_reducible refine CallI.inl ti_ok i18 rfl ?_ | with_reducible refine CallI.inl ti_ok i39 rfl ?_)|(with_reducible first|refine gB ?_|refine gZ (fun x hx hu=>?_)|refine gY (fun x hx=>?_)|refine gE ?_|refine Both.mk ?_ ?_|refine gS (fun h=>?_) (fun h=>?_)|refine Spl.nt ?_|refine Spl.mk (fun h=>?_) (fun h=>?_))))
    refine again (i + 1) (by omega) (by dsimp only; omega) (And.intro rfl (And.intro rfl (And.intro rfl (And.intro (it_eq (by omega)) trivial)))) trivial rfl
   ·(repeat' ((conv=>whnf);first|with_reducible refine gA ?_|(with_reducible first|refine gB ?_|refine gZ (fun x hx hu=>?_)|refine gY (fun x hx=>?_)|refine gE ?_|refine Both.mk ?_ ?_|refine gS (fun h=>?_) (fun h=>?_)|refine Spl.nt ?_|refine Spl.mk (fun h=>?_) (fun h=>?_))))
    rfl)
end Go.Proofs.YtmfokpfddponjaaGreatDoor
namespace Go.Proofs.YtmfokpfddponjaaGreatDoor
open Go.Sy
def imgD (d : Option Dk) : List (List UInt8) := match d with
 | none => []
 | some dk => (List.range dk.safe.length).map fun k : Nat => rdS d (k : Nat)
theorem imgD_ok {d : Option Dk} (h : DkOK d) : ImOK (imgD d) := by
 intro s hs
 cases d with
 | none => cases hs
 | some dk =>
  obtain ⟨k, _, rfl⟩ := List.mem_map.1 hs
  exact rdS_len h _
theorem chunk1 {l : List D} {n : Nat} (h : l.length = n) : chunk n 1 ([] ++ l ++ []) = [l] := by
 show [([] ++ l ++ []).take n] = _
 rw [List.nil_append, List.append_nil, List.take_of_length_le (by omega)]
def mtA (d : Option Dk) (i : Nat) : S := ⟨[(0, .d (encD d)), (3, .ts 32 (((List.range i).map fun k : Nat => rdS d (k : Nat)).map encS) 0), (7, .d (.it .i64 (i : Nat)))], [(0, .tail 54 true)], 1⟩
set_option maxHeartbeats 4000000 in
theorem mounted_ok (d : Option Dk) (hd : DkOK d) : FnC Tryz.prog 6 [.d (encD d)] (.d (.bl (decide (mntP (imgD d))))) := by
 have hm := mounts_ok _ (imgD_ok hd)
 have hil : (imgD d).length ≤ 65 := by
  cases d with
  | none => exact Nat.zero_le _
  | some dk =>
   show ((List.range dk.safe.length).map _).length ≤ 65
   rw [List.length_map, List.length_range]; exact hd.2.2.1
 have hhas : ∀ i : Nat, hasP d i ↔ i < (imgD d).length := fun i => by
  cases d with
  | none => exact ⟨fun h => h.elim, fun h => absurd h (Nat.not_lt_zero _)⟩
  | some dk =>
   show (0 ≤ (i : Int) ∧ (i : Int) < dk.safe.length) ↔ i < ((List.range dk.safe.length).map _).length
   rw [List.length_map, List.length_range]; omega
 have himg : ((List.range (imgD d).length).map fun k : Nat => rdS d (k : Nat)) = imgD d := by
  cases d with
  | none => rfl
  | some dk =>
   show ((List.range ((List.range dk.safe.length).map _).length).map _) = _
   rw [List.length_map, List.length_range]; rfl
 refine FnC.intro ti_ok Tryz.func6 rfl Tryz.ntmps6 Tryz.call6 rfl (Nat.le_of_ble_eq_true rfl) rfl ?_
 (repeat' ((conv=>whnf);first|with_reducible refine gA ?_|(with_reducible first|refine gB ?_|refine gZ (fun x hx hu=>?_)|refine gY (fun x hx=>?_)|refine gE ?_|refine Both.mk ?_ ?_|refine gS (fun h=>?_) (fun h=>?_)|refine Spl.nt ?_|refine Spl.mk (fun h=>?_) (fun h=>?_))))
 refine loop_rule ti_ok (fun i : Nat => i ≤ (imgD d).length) (mtA d) (fun i => 66 - i) 0 (Nat.zero_le _) ⟨And.intro rfl (And.intro rfl (And.intro rfl trivial)), And.intro rfl trivial, rfl⟩ ?_
 intro i hi
 have hr := read_ok d hd i
 have hlen : (((List.range i).map fun k : Nat => rdS d (k : Nat)).map encS).length = i := by simp
 rcases Nat.lt_or_ge i (imgD d).length with hlt | hge
 ·rw [show rdE d i = 0 from if_pos ((hhas i).2 hlt)] at hr
  have hs := rdS_len hd i
  have hrl : (List.range i).length = i := List.length_range
  (repeat' ((conv=>whnf);first|with_reducible refine gA ?_|((with_reducible refine callE_id ?_); (refine CallE.con ⟨_, hr, ?_⟩)) | ((with_reducible refine letC_id ?_); refine LetC.mk ((encS (rdS d i)).map AV.d) (st_all _) ?_) | ((with_reducible refine atA_id ?_); refine AtA.eq (ld_sec rfl rfl hs) ?_)|(with_reducible first|refine gB ?_|refine gZ (fun x hx hu=>?_)|refine gY (fun x hx=>?_)|refine gE ?_|refine Both.mk ?_ ?_|refine gS (fun h=>?_) (fun h=>?_)|refine Spl.nt ?_|refine Spl.mk (fun h=>?_) (fun h=>?_))))
  refine again (i + 1) (by omega) (by dsimp only; omega) (And.intro rfl (And.intro (ts_eq ?_) (And.intro (it_eq (by omega)) trivial))) (And.intro rfl trivial) rfl
  rw [List.range_succ, List.map_append, List.map_append]
  exact congrArg _ (chunk1 (by rw [encS_len]; exact hs))
 ·have hie : i = (imgD d).length := by omega
  rw [show rdE d i = 1 from if_neg (fun q => by have := (hhas i).1 q; omega)] at hr
  have hmi : FnC Tryz.prog 20 [.d (.fs 32 ((((List.range i).map fun k : Nat => rdS d (k : Nat))).map encS))] (.d (.bl (decide (mntP (imgD d))))) := by rw [hie, himg]; exact hm
  by_cases h65 : i < 65
  ·(repeat' ((conv=>whnf);first|with_reducible refine gA ?_|((with_reducible refine callE_id ?_); first | (refine CallE.con ⟨_, hr, ?_⟩) | (refine CallE.con ⟨_, hmi, ?_⟩)) | ((with_reducible refine letC_id ?_); refine LetC.mk ((encS (rdS d i)).map AV.d) (st_all _) ?_)|(with_reducible first|refine gB ?_|refine gZ (fun x hx hu=>?_)|refine gY (fun x hx=>?_)|refine gE ?_|refine Both.mk ?_ ?_|refine gS (fun h=>?_) (fun h=>?_)|refine Spl.nt ?_|refine Spl.mk (fun h=>?_) (fun h=>?_))))
   rfl
  ·(repeat' ((conv=>whnf);first|with_reducible refine gA ?_|((with_reducible refine callE_id ?_); (refine CallE.con ⟨_, hmi, ?_⟩))|(with_reducible first|refine gB ?_|refine gZ (fun x hx hu=>?_)|refine gY (fun x hx=>?_)|refine gE ?_|refine Both.mk ?_ ?_|refine gS (fun h=>?_) (fun h=>?_)|refine Spl.nt ?_|refine Spl.mk (fun h=>?_) (fun h=>?_))))
   rfl
end Go.Proofs.YtmfokpfddponjaaGreatDoor
namespace Go.Proofs.YtmfokpfddponjaaGreatDoor
open Go.Sy
def stdP (f : Int → List UInt8) (p : Int) (k : Nat) : Prop := (entAt f k).u = true ∧ (entAt f k).p = p ∧ (inoAt f (entAt f k).t).k ≠ 0
instance (f : Int → List UInt8) (p : Int) (k : Nat) : Decidable (stdP f p k) := by unfold stdP; infer_instance
def fndP (f : Int → List UInt8) (p : Int) (s : List UInt8) (k : Nat) : Prop := stdP f p k ∧ (entAt f k).n = s
instance (f : Int → List UInt8) (p : Int) (s : List UInt8) (k : Nat) : Decidable (fndP f p s k) := by unfold fndP; infer_instance
def fndK (f : Int → List UInt8) (p : Int) (s : List UInt8) : Option Nat := (List.range 24).find? fun k => decide (fndP f p s k)
def fndV (o : Option Nat) : AV := match o with
 | some k => .tup [.d (.it .i64 (k : Nat)), .d (.bl true)]
 | none => .tup [.d (.it .i64 0), .d (.bl false)]
theorem fndK_some {f : Int → List UInt8} {p : Int} {s : List UInt8} {k : Nat} (hk : k < 24) (h : fndP f p s k) (hn : ∀ j : Nat, j < k → ¬ fndP f p s j) : fndK f p s = some k := by
 unfold fndK
 refine List.find?_eq_some_iff_getElem.2 ⟨decide_eq_true h, k, by simpa using hk, by simp, fun j hj => ?_⟩
 simp only [List.getElem_range]
 simpa using hn j hj
theorem fndK_none {f : Int → List UInt8} {p : Int} {s : List UInt8} (hn : ∀ j : Nat, j < 24 → ¬ fndP f p s j) : fndK f p s = none := by
 unfold fndK
 rw [List.find?_eq_none]
 intro j hj
 simpa using hn j (List.mem_range.1 hj)
def fdA (F1 F2 : Func) (d : Option Dk) (p : Int) (s : List UInt8) (k : Nat) : S := ⟨[(0, .yld 12), (1, .ptr 10 0), (5, .d (.it .i64 (k : Nat)))],
  [(12, rgL 11 F1), (11, .frame 30 [(1, .ptr 4 0), (2, .ptr 5 0), (3, .ptr 8 0)]), (10, .cells 1 [.d (encD d)]), (8, .cells 1 [.yld 7]), (7, rgL 6 F2), (6, .frame 21 [(5, .ptr 0 0), (6, .ptr 1 0), (7, .ptr 2 0)]),
   (5, .cells 1 [.d (.it .i64 p)]), (4, .cells 1 [.d (encD d)]), (2, .cells 1 [.d (.bl false)]), (1, .cells 1 [.d (.it .i64 0)]), (0, .cells 1 [.d (.st s)])], 13⟩
set_option maxHeartbeats 8000000 in
theorem find_ok (d : Option Dk) (hd : DkOK d) (p : Int) (s : List UInt8) : FnC Tryz.prog 48 [.d (encD d), .d (.it .i64 p), .d (.st s)] (fndV (fndK (rdS d) p s)) := by
 have he := fun k => entry_ok d hd k
 generalize hR : fndV (fndK (rdS d) p s) = R
 have hRP : R.isP = true := by rw [← hR]; unfold fndV; split <;> rfl
 refine FnC.intro ti_ok Tryz.func48 rfl Tryz.ntmps48 Tryz.call48 rfl (Nat.le_of_ble_eq_true rfl) hRP ?_
 (repeat' ((conv=>whnf);first|with_reducible refine gA ?_|((with_reducible refine callE_id ?_); refine CallE.inl ?_) | with_reducible refine CallI.inl ti_ok i68 rfl ?_|(with_reducible first|refine gB ?_|refine gZ (fun x hx hu=>?_)|refine gY (fun x hx=>?_)|refine gE ?_|refine Both.mk ?_ ?_|refine gS (fun h=>?_) (fun h=>?_)|refine Spl.nt ?_|refine Spl.mk (fun h=>?_) (fun h=>?_))))
 refine RangeS.intro ti_ok i89 rfl rfl ?_
 (repeat' ((conv=>whnf);first|with_reducible refine gA ?_|((with_reducible refine callE_id ?_); refine CallE.inl ?_) | with_reducible refine CallI.inl ti_ok i87 rfl ?_|(with_reducible first|refine gB ?_|refine gZ (fun x hx hu=>?_)|refine gY (fun x hx=>?_)|refine gE ?_|refine Both.mk ?_ ?_|refine gS (fun h=>?_) (fun h=>?_)|refine Spl.nt ?_|refine Spl.mk (fun h=>?_) (fun h=>?_))))
 refine RangeS.intro ti_ok i125 rfl rfl ?_
 (repeat' ((conv=>whnf);first|with_reducible refine gA ?_|(with_reducible first|refine gB ?_|refine gZ (fun x hx hu=>?_)|refine gY (fun x hx=>?_)|refine gE ?_|refine Both.mk ?_ ?_|refine gS (fun h=>?_) (fun h=>?_)|refine Spl.nt ?_|refine Spl.mk (fun h=>?_) (fun h=>?_))))
 conv => whnf
 refine LoopS.wk (τ := fdA Tryz.f89 Tryz.f48 d p s 0) (Wk.enF (And.intro rfl (And.intro rfl (And.intro rfl trivial))) (by (repeat (first | exact trivial | refine And.intro (obw_eq rfl (by with_unfolding_all exact rfl)) ?_ | refine And.intro (obw_fr (by with_unfolding_all exact rfl) (by (repeat (first | exact trivial | refine And.intro (by with_unfolding_all exact rfl) ?_)))) ?_))) rfl) ?_
 refine loop_ruleW ti_ok (fun k : Nat => k ≤ 24 ∧ ∀ j : Nat, j < k → ¬ fndP (rdS d) p s j) (fdA Tryz.f89 Tryz.f48 d p s) (fun k => 24 - k) 0 ⟨Nat.zero_le _, fun j hj => by omega⟩ (Wk.en ⟨And.intro rfl (And.intro rfl (And.intro rfl trivial)), (by (repeat (first | exact trivial | refine And.intro rfl ?_))), rfl⟩) ?_
 intro k hk0
 have k1 := hk0.1
 have k2 := hk0.2
 by_cases hk : k < 24
 ·have hek := he (k : Nat)
  have next : ¬ fndP (rdS d) p s k → ∀ j : Nat, j < k + 1 → ¬ fndP (rdS d) p s j := fun hn j hj => by
   rcases Nat.lt_or_ge j k with hjk | hjk
   ·exact k2 j hjk
   ·obtain rfl : j = k := by omega
    exact hn
  by_cases hu : (entAt (rdS d) k).u = false
  ·have hek' : encE (entAt (rdS d) k) = [.bl false, .it .i64 (entAt (rdS d) k).p, .st (entAt (rdS d) k).n, .it .i64 (entAt (rdS d) k).t] := by rw [encE, hu]
   rw [hek'] at hek
   (repeat' ((conv=>whnf);first|with_reducible refine gA ?_|((with_reducible refine callE_id ?_); (refine CallE.con ⟨_, hek, ?_⟩))|(with_reducible first|refine gB ?_|refine gZ (fun x hx hu=>?_)|refine gY (fun x hx=>?_)|refine gE ?_|refine Both.mk ?_ ?_|refine gS (fun h=>?_) (fun h=>?_)|refine Spl.nt ?_|refine Spl.mk (fun h=>?_) (fun h=>?_))))
   refine ⟨k + 1, ⟨by omega, next (fun q => by rw [q.1.1] at hu; cases hu)⟩, by dsimp only; omega, Wk.enF (And.intro rfl (And.intro rfl (And.intro (it_eq (by omega)) trivial))) (by (repeat (first | exact trivial | refine And.intro (obw_eq rfl (by with_unfolding_all exact rfl)) ?_ | refine And.intro (obw_fr (by with_unfolding_all exact rfl) (by (repeat (first | exact trivial | refine And.intro (by with_unfolding_all exact rfl) ?_)))) ?_))) rfl⟩
  ·have hu' : (entAt (rdS d) k).u = true := by simpa using hu
   have hek' : encE (entAt (rdS d) k) = [.bl true, .it .i64 (entAt (rdS d) k).p, .st (entAt (rdS d) k).n, .it .i64 (entAt (rdS d) k).t] := by rw [encE, hu']
   rw [hek'] at hek
   have hin := inode_ok d hd (entAt (rdS d) k).t
   (repeat' ((conv=>whnf);first|with_reducible refine gA ?_|((with_reducible refine callE_id ?_); first | (refine CallE.con ⟨_, hek, ?_⟩) | (refine CallE.con ⟨_, hin, ?_⟩)) | with_reducible refine YieldI.intro ti_ok (by with_unfolding_all exact rfl) (by with_unfolding_all exact rfl) (by with_unfolding_all exact rfl) ?_|(with_reducible first|refine gB ?_|refine gZ (fun x hx hu=>?_)|refine gY (fun x hx=>?_)|refine gE ?_|refine Both.mk ?_ ?_|refine gS (fun h=>?_) (fun h=>?_)|refine Spl.nt ?_|refine Spl.mk (fun h=>?_) (fun h=>?_))))
   ·have hv : fndV (fndK (rdS d) p s) = fndV (some k) := by rw [fndK_some hk ⟨⟨hu', by assumption, by assumption⟩, by assumption⟩ k2]
    exact hv.symm.trans hR
   ·refine ⟨k + 1, ⟨by omega, next (fun q => (by assumption : ¬ _) q.2)⟩, by dsimp only; omega, Wk.enF (And.intro rfl (And.intro rfl (And.intro (it_eq (by omega)) trivial))) (by (repeat (first | exact trivial | refine And.intro (obw_eq rfl (by with_unfolding_all exact rfl)) ?_ | refine And.intro (obw_fr (by with_unfolding_all exact rfl) (by (repeat (first | exact trivial | refine And.intro (by with_unfolding_all exact rfl) ?_)))) ?_))) rfl⟩
   ·refine ⟨k + 1, ⟨by omega, next (fun q => q.1.2.2 (by assumption))⟩, by dsimp only; omega, Wk.enF (And.intro rfl (And.intro rfl (And.intro (it_eq (by omega)) trivial))) (by (repeat (first | exact trivial | refine And.intro (obw_eq rfl (by with_unfolding_all exact rfl)) ?_ | refine And.intro (obw_fr (by with_unfolding_all exact rfl) (by (repeat (first | exact trivial | refine And.intro (by with_unfolding_all exact rfl) ?_)))) ?_))) rfl⟩
   ·refine ⟨k + 1, ⟨by omega, next (fun q => (by assumption : ¬ _) q.1.2.1)⟩, by dsimp only; omega, Wk.enF (And.intro rfl (And.intro rfl (And.intro (it_eq (by omega)) trivial))) (by (repeat (first | exact trivial | refine And.intro (obw_eq rfl (by with_unfolding_all exact rfl)) ?_ | refine And.intro (obw_fr (by with_unfolding_all exact rfl) (by (repeat (first | exact trivial | refine And.intro (by with_unfolding_all exact rfl) ?_)))) ?_))) rfl⟩
 ·(repeat' ((conv=>whnf);first|with_reducible refine gA ?_|(with_reducible first|refine gB ?_|refine gZ (fun x hx hu=>?_)|refine gY (fun x hx=>?_)|refine gE ?_|refine Both.mk ?_ ?_|refine gS (fun h=>?_) (fun h=>?_)|refine Spl.nt ?_|refine Spl.mk (fun h=>?_) (fun h=>?_))))
  have hv : fndV (fndK (rdS d) p s) = fndV none := by rw [fndK_none fun j hj => k2 j (by omega)]
  exact hv.symm.trans hR
end Go.Proofs.YtmfokpfddponjaaGreatDoor
namespace Go.Proofs.YtmfokpfddponjaaGreatDoor
open Go.Sy
def sortS (l : List (List UInt8)) : List (List UInt8) := l.mergeSort fun x y => decide (x ≤ y)
def vS (l : List (List UInt8)) : List (List D) := l.map fun z => [.st z]
theorem sortS_len (l : List (List UInt8)) : (sortS l).length = l.length := List.length_mergeSort _
theorem sortS_ok (t : Nat) (fl : Bool) (zs : List (List UInt8)) (n : Nat) (hn : zs.length = n) (h0 : 0 < n) (hsz : n < 4611686018427387904) : FnM Tryz.prog 69 true [.vx 1 0 0 n] (.vec t 1 (vS zs) fl) (.vec t 1 (vS (sortS zs)) fl) (.tup []) := by
 subst hn
 exact FnM.ofRow (fun l : List UInt8 => Value.string ⟨l.toArray⟩) (fun z => .st z) (fun F x => .st _) (fun F x v h => by cases h; rfl) (m := none) (List.length_mergeSort _) h0 (fun q h => by cases h) Tryz.call69 (fun blk off cap w hH hb hc => (Tryz.slices_Sort_string blk off cap zs w hH hb hsz).mono fun e w' h => h)
theorem compactS_ok (t : Nat) (fl : Bool) (n : Nat) (zs : List (List UInt8)) (hn : zs.length = n) (h0 : 0 < n) (hsz : n < 4611686018427387904) : FnM Tryz.prog 70 true [.vx 1 0 0 n] (.vec t 1 (vS zs) fl) (.vec t 1 (vS (Lib.compact zs ++ List.replicate (zs.length - (Lib.compact zs).length) [])) fl) (.vx 1 0 0 (Lib.compact zs).length) := by
 subst hn
 exact FnM.ofRow (fun l : List UInt8 => Value.string ⟨l.toArray⟩) (fun z => .st z) (fun F x => .st _) (fun F x v h => by cases h; rfl) (m := some (Lib.compact zs).length) (by have := Lib.compact_length_le zs; simp; omega) h0 (fun q h => by cases h; exact Lib.compact_length_le zs) Tryz.call70 (fun blk off cap w hH hb hc => (Tryz.slices_Compact_string blk off cap zs w hH (by omega) hc).mono fun e w' ⟨h1, q, h2⟩ => ⟨h1, q, #[], by rw [Go.Sort.grow_empty]; exact h2⟩)
def nmsK (f : Int → List UInt8) (p : Int) (k : Nat) : List (List UInt8) := ((List.range k).filter fun j => decide (stdP f p j)).map fun j : Nat => (entAt f (j : Nat)).n
def nms (f : Int → List UInt8) (p : Int) : List (List UInt8) := Lib.compact (sortS (nmsK f p 24))
theorem nmsK_len (f : Int → List UInt8) (p : Int) (k : Nat) : (nmsK f p k).length ≤ k := by
 unfold nmsK
 rw [List.length_map]
 exact Nat.le_trans (List.length_filter_le _ _) (by rw [List.length_range]; exact Nat.le_refl _)
theorem nmsK_yes {f : Int → List UInt8} {p : Int} {k : Nat} (h : stdP f p k) : nmsK f p (k + 1) = nmsK f p k ++ [(entAt f (k : Nat)).n] := by
 unfold nmsK
 rw [List.range_succ, List.filter_append, List.map_append]
 simp [h]
theorem nmsK_no {f : Int → List UInt8} {p : Int} {k : Nat} (h : ¬ stdP f p k) : nmsK f p (k + 1) = nmsK f p k := by
 unfold nmsK
 rw [List.range_succ, List.filter_append, List.map_append]
 simp [h]
def lsA (F1 F2 : Func) (d : Option Dk) (p : Int) (k : Nat) (L : List (List UInt8)) : S := ⟨[(0, .yld 11), (1, .ptr 9 0), (5, .d (.it .i64 (k : Nat)))],
  [(11, rgL 10 F1), (10, .frame 30 [(1, .ptr 3 0), (2, .ptr 4 0), (3, .ptr 7 0)]), (9, .cells 1 [.d (encD d)]), (7, .cells 1 [.yld 6]), (6, rgL 5 F2), (5, .frame 23 [(5, .ptr 1 0)]),
   (4, .cells 1 [.d (.it .i64 p)]), (3, .cells 1 [.d (encD d)]), (1, .cells 1 [.vx 1 12 0 L.length]), (12, .vec 9 1 (vS L) false)], 13⟩
theorem wk_tr {N : Nat} {σ τ τ' : S} (e : τ' = τ) (h : Wk N σ τ') : Wk N σ τ := by rw [← e]; exact h
theorem letE_id {e : List (List D)} {K : List (List D) → Prop} (h : LetE e K) : LetE e K := h
theorem letN_id {e : Nat} {K : Nat → Prop} (h : LetN e K) : LetN e K := h
theorem vS_app {L : List (List UInt8)} {x : List UInt8} {n : Nat} (h : n = L.length) : (vS L).take n ++ [[.st x]] = vS (L ++ [x]) := by
 subst h
 unfold vS
 rw [List.take_of_length_le (by rw [List.length_map]; exact Nat.le_refl _), List.map_append]; rfl
set_option maxHeartbeats 8000000 in
theorem list_ok (d : Option Dk) (hd : DkOK d) (p : Int) : FnC Tryz.prog 47 [.d (encD d), .d (.it .i64 p)] (.d (.fs 1 (vS (nms (rdS d) p)))) := by
 have he := fun k => entry_ok d hd k
 refine FnC.intro ti_ok Tryz.func47 rfl Tryz.ntmps47 Tryz.call47 rfl (Nat.le_of_ble_eq_true rfl) rfl ?_
 (repeat' ((conv=>whnf);first|with_reducible refine gA ?_|((with_reducible refine callE_id ?_); refine CallE.inl ?_) | with_reducible refine CallI.inl ti_ok i68 rfl ?_|(with_reducible first|refine gB ?_|refine gZ (fun x hx hu=>?_)|refine gY (fun x hx=>?_)|refine gE ?_|refine Both.mk ?_ ?_|refine gS (fun h=>?_) (fun h=>?_)|refine Spl.nt ?_|refine Spl.mk (fun h=>?_) (fun h=>?_))))
 refine RangeS.intro ti_ok i89 rfl rfl ?_
 (repeat' ((conv=>whnf);first|with_reducible refine gA ?_|((with_reducible refine callE_id ?_); refine CallE.inl ?_) | with_reducible refine CallI.inl ti_ok i87 rfl ?_|(with_reducible first|refine gB ?_|refine gZ (fun x hx hu=>?_)|refine gY (fun x hx=>?_)|refine gE ?_|refine Both.mk ?_ ?_|refine gS (fun h=>?_) (fun h=>?_)|refine Spl.nt ?_|refine Spl.mk (fun h=>?_) (fun h=>?_))))
 refine RangeS.intro ti_ok i125 rfl rfl ?_
 (repeat' ((conv=>whnf);first|with_reducible refine gA ?_|(with_reducible first|refine gB ?_|refine gZ (fun x hx hu=>?_)|refine gY (fun x hx=>?_)|refine gE ?_|refine Both.mk ?_ ?_|refine gS (fun h=>?_) (fun h=>?_)|refine Spl.nt ?_|refine Spl.mk (fun h=>?_) (fun h=>?_))))
 conv => whnf
 refine LoopS.wk (Wk.nlVx 1 0 1 1 9 (by with_unfolding_all exact rfl) (by with_unfolding_all exact rfl)) ?_
 refine LoopS.wk (τ := lsA Tryz.f89 Tryz.f47 d p 0 []) (Wk.enF (And.intro rfl (And.intro rfl (And.intro rfl trivial))) (by (repeat (first | exact trivial | refine And.intro (obw_eq rfl (by with_unfolding_all exact rfl)) ?_ | refine And.intro (obw_fr (by with_unfolding_all exact rfl) (by (repeat (first | exact trivial | refine And.intro (by with_unfolding_all exact rfl) ?_)))) ?_))) rfl) ?_
 refine loop_ruleW ti_ok (fun k : Nat => k ≤ 24) (fun k : Nat => lsA Tryz.f89 Tryz.f47 d p k (nmsK (rdS d) p k)) (fun k => 24 - k) 0 (Nat.zero_le _) (Wk.en ⟨And.intro rfl (And.intro rfl (And.intro rfl trivial)), (by (repeat (first | exact trivial | refine And.intro rfl ?_))), rfl⟩) ?_
 intro k k1
 by_cases hk : k < 24
 ·have hek := he (k : Nat)
  have hln := nmsK_len (rdS d) p k
  have hlv : (vS (nmsK (rdS d) p k)).length = (nmsK (rdS d) p k).length := List.length_map ..
  by_cases hu : (entAt (rdS d) k).u = false
  ·have hek' : encE (entAt (rdS d) k) = [.bl false, .it .i64 (entAt (rdS d) k).p, .st (entAt (rdS d) k).n, .it .i64 (entAt (rdS d) k).t] := by rw [encE, hu]
   rw [hek'] at hek
   have hno : nmsK (rdS d) p (k + 1) = nmsK (rdS d) p k := nmsK_no (fun q => by rw [q.1] at hu; cases hu)
   (repeat' ((conv=>whnf);first|with_reducible refine gA ?_|((with_reducible refine callE_id ?_); (refine CallE.con ⟨_, hek, ?_⟩))|(with_reducible first|refine gB ?_|refine gZ (fun x hx hu=>?_)|refine gY (fun x hx=>?_)|refine gE ?_|refine Both.mk ?_ ?_|refine gS (fun h=>?_) (fun h=>?_)|refine Spl.nt ?_|refine Spl.mk (fun h=>?_) (fun h=>?_))))
   refine ⟨k + 1, by omega, by dsimp only; omega, wk_tr (congrArg (lsA Tryz.f89 Tryz.f47 d p (k + 1)) hno.symm) (Wk.enF (And.intro rfl (And.intro rfl (And.intro (it_eq (by omega)) trivial))) (by (repeat (first | exact trivial | refine And.intro (obw_eq rfl (by with_unfolding_all exact rfl)) ?_ | refine And.intro (obw_fr (by with_unfolding_all exact rfl) (by (repeat (first | exact trivial | refine And.intro (by with_unfolding_all exact rfl) ?_)))) ?_))) rfl)⟩
  ·have hu' : (entAt (rdS d) k).u = true := by simpa using hu
   have hek' : encE (entAt (rdS d) k) = [.bl true, .it .i64 (entAt (rdS d) k).p, .st (entAt (rdS d) k).n, .it .i64 (entAt (rdS d) k).t] := by rw [encE, hu']
   rw [hek'] at hek
   have hin := inode_ok d hd (entAt (rdS d) k).t
   (repeat' ((conv=>whnf);first|with_reducible refine gA ?_|((with_reducible refine callE_id ?_); first | (refine CallE.con ⟨_, hek, ?_⟩) | (refine CallE.con ⟨_, hin, ?_⟩)) | with_reducible refine YieldI.intro ti_ok (by with_unfolding_all exact rfl) (by with_unfolding_all exact rfl) (by with_unfolding_all exact rfl) ?_ | ((with_reducible refine letE_id ?_); refine LetE.mk (vS (nmsK (rdS d) p k ++ [(entAt (rdS d) k).n])) (vS_app rfl).symm ?_) | ((with_reducible refine letN_id ?_); refine LetN.eq (nmsK (rdS d) p k ++ [(entAt (rdS d) k).n]).length (by rw [List.length_append]; rfl) ?_)|(with_reducible first|refine gB ?_|refine gZ (fun x hx hu=>?_)|refine gY (fun x hx=>?_)|refine gE ?_|refine Both.mk ?_ ?_|refine gS (fun h=>?_) (fun h=>?_)|refine Spl.nt ?_|refine Spl.mk (fun h=>?_) (fun h=>?_))))
   ·have hyes := nmsK_yes (f := rdS d) (p := p) (k := k) ⟨hu', by assumption, by assumption⟩
    refine ⟨k + 1, by omega, by dsimp only; omega, wk_tr (congrArg (lsA Tryz.f89 Tryz.f47 d p (k + 1)) hyes.symm) (Wk.enF (And.intro rfl (And.intro rfl (And.intro (it_eq (by omega)) trivial))) (by (repeat (first | exact trivial | refine And.intro (obw_eq rfl (by with_unfolding_all exact rfl)) ?_ | refine And.intro (obw_fr (by with_unfolding_all exact rfl) (by (repeat (first | exact trivial | refine And.intro (by with_unfolding_all exact rfl) ?_)))) ?_))) rfl)⟩
   ·have hno : nmsK (rdS d) p (k + 1) = nmsK (rdS d) p k := nmsK_no (fun q => q.2.2 (by assumption))
    refine ⟨k + 1, by omega, by dsimp only; omega, wk_tr (congrArg (lsA Tryz.f89 Tryz.f47 d p (k + 1)) hno.symm) (Wk.enF (And.intro rfl (And.intro rfl (And.intro (it_eq (by omega)) trivial))) (by (repeat (first | exact trivial | refine And.intro (obw_eq rfl (by with_unfolding_all exact rfl)) ?_ | refine And.intro (obw_fr (by with_unfolding_all exact rfl) (by (repeat (first | exact trivial | refine And.intro (by with_unfolding_all exact rfl) ?_)))) ?_))) rfl)⟩
   ·have hno : nmsK (rdS d) p (k + 1) = nmsK (rdS d) p k := nmsK_no (fun q => (by assumption : ¬ _) q.2.1)
    refine ⟨k + 1, by omega, by dsimp only; omega, wk_tr (congrArg (lsA Tryz.f89 Tryz.f47 d p (k + 1)) hno.symm) (Wk.enF (And.intro rfl (And.intro rfl (And.intro (it_eq (by omega)) trivial))) (by (repeat (first | exact trivial | refine And.intro (obw_eq rfl (by with_unfolding_all exact rfl)) ?_ | refine And.intro (obw_fr (by with_unfolding_all exact rfl) (by (repeat (first | exact trivial | refine And.intro (by with_unfolding_all exact rfl) ?_)))) ?_))) rfl)⟩
 ·have hk24 : k = 24 := by omega
  have hln := nmsK_len (rdS d) p k
  have hR : nms (rdS d) p = Lib.compact (sortS (nmsK (rdS d) p k)) := by unfold nms; rw [hk24]
  by_cases hL : (nmsK (rdS d) p k).length = 0
  ·have hnil : nmsK (rdS d) p k = [] := List.length_eq_zero_iff.1 hL
   have hR0 : nms (rdS d) p = [] := by
    rw [hR, hnil]
    exact List.length_eq_zero_iff.1 (Nat.le_zero.1 (by have := Lib.compact_length_le (sortS ([] : List (List UInt8))); rw [sortS_len] at this; exact this))
   (repeat' ((conv=>whnf);first|with_reducible refine gA ?_|((with_reducible refine callE_id ?_); refine CallE.inl ?_) | ((with_reducible refine callI_id ?_); first | refine CallI.none0 Tryz.call69 Tryz.slices_Sort_string_none (by with_unfolding_all exact rfl) hL ?_ | refine CallI.same0 Tryz.call70 Tryz.slices_Compact_string_empty (by with_unfolding_all exact rfl) hL ?_)|(with_reducible first|refine gB ?_|refine gZ (fun x hx hu=>?_)|refine gY (fun x hx=>?_)|refine gE ?_|refine Both.mk ?_ ?_|refine gS (fun h=>?_) (fun h=>?_)|refine Spl.nt ?_|refine Spl.mk (fun h=>?_) (fun h=>?_))))
   refine fs_eq ?_
   rw [hR0, hnil]; rfl
  ·have hpos : 0 < (nmsK (rdS d) p k).length := by omega
   have hcl : (Lib.compact (sortS (nmsK (rdS d) p k))).length ≤ (sortS (nmsK (rdS d) p k)).length := Lib.compact_length_le _
   (repeat' ((conv=>whnf);first|with_reducible refine gA ?_|((with_reducible refine callE_id ?_); refine CallE.inl ?_) | ((with_reducible refine callI_id ?_); first | refine CallI.byM (sortS_ok 9 false (nmsK (rdS d) p k) _ rfl hpos (by omega)) (by with_unfolding_all exact rfl) rfl ?_ | refine CallI.byM (compactS_ok 9 false (nmsK (rdS d) p k).length (sortS (nmsK (rdS d) p k)) (sortS_len _) hpos (by omega)) (by with_unfolding_all exact rfl) rfl ?_)|(with_reducible first|refine gB ?_|refine gZ (fun x hx hu=>?_)|refine gY (fun x hx=>?_)|refine gE ?_|refine Both.mk ?_ ?_|refine gS (fun h=>?_) (fun h=>?_)|refine Spl.nt ?_|refine Spl.mk (fun h=>?_) (fun h=>?_))))
   refine And.intro ?_ ?_
   ·show 0 + (Lib.compact (sortS (nmsK (rdS d) p k))).length ≤ (vS (Lib.compact (sortS (nmsK (rdS d) p k)) ++ _)).length
    unfold vS
    rw [List.length_map, List.length_append]; omega
   ·(repeat' ((conv=>whnf);first|with_reducible refine gA ?_|(with_reducible first|refine gB ?_|refine gZ (fun x hx hu=>?_)|refine gY (fun x hx=>?_)|refine gE ?_|refine Both.mk ?_ ?_|refine gS (fun h=>?_) (fun h=>?_)|refine Spl.nt ?_|refine Spl.mk (fun h=>?_) (fun h=>?_))))
    refine fs_eq ?_
    rw [hR]
    show (List.drop 0 (vS (_ ++ _))).take _ = _
    unfold vS
    rw [List.drop_zero, List.map_append, List.take_left' (List.length_map ..)]
end Go.Proofs.YtmfokpfddponjaaGreatDoor
namespace Go.Proofs.YtmfokpfddponjaaGreatDoor
open Go.Sy
def stepV (f : Int → List UInt8) (n : Int) (s : List UInt8) : Int × Int := if (inoAt f n).k = 2 then (match fndK f n s with | none => (0, 4) | some k => ((entAt f (k : Nat)).t, 0)) else (0, 6)
def pairA (x : Int × Int) : AV := .tup [.d (.it .i64 x.1), .d (.it .i64 x.2)]
theorem step_ok (d : Option Dk) (hd : DkOK d) (n : Int) (s : List UInt8) : FnC Tryz.prog 27 [.d (encD d), .d (.it .i64 n), .d (.st s)] (pairA (stepV (rdS d) n s)) := by
 have hi := inode_ok d hd n
 have hf := find_ok d hd n s
 unfold stepV
 by_cases h2 : (inoAt (rdS d) n).k = 2
 ·rw [if_pos h2]
  cases hk : fndK (rdS d) n s with
  | none =>
   rw [hk, fndV] at hf
   refine FnC.intro ti_ok Tryz.func27 rfl Tryz.ntmps27 Tryz.call27 rfl (Nat.le_of_ble_eq_true rfl) rfl ?_
   (repeat' ((conv=>whnf);first|with_reducible refine gA ?_|((with_reducible refine callE_id ?_); first | (refine CallE.con ⟨_, hi, ?_⟩) | (refine CallE.con ⟨_, hf, ?_⟩))|(with_reducible first|refine gB ?_|refine gZ (fun x hx hu=>?_)|refine gY (fun x hx=>?_)|refine gE ?_|refine Both.mk ?_ ?_|refine gS (fun h=>?_) (fun h=>?_)|refine Spl.nt ?_|refine Spl.mk (fun h=>?_) (fun h=>?_))))
   rfl
  | some k =>
   rw [hk, fndV] at hf
   have he := entry_ok d hd (k : Nat)
   refine FnC.intro ti_ok Tryz.func27 rfl Tryz.ntmps27 Tryz.call27 rfl (Nat.le_of_ble_eq_true rfl) rfl ?_
   (repeat' ((conv=>whnf);first|with_reducible refine gA ?_|((with_reducible refine callE_id ?_); first | (refine CallE.con ⟨_, hi, ?_⟩) | (refine CallE.con ⟨_, hf, ?_⟩) | (refine CallE.con ⟨_, he, ?_⟩))|(with_reducible first|refine gB ?_|refine gZ (fun x hx hu=>?_)|refine gY (fun x hx=>?_)|refine gE ?_|refine Both.mk ?_ ?_|refine gS (fun h=>?_) (fun h=>?_)|refine Spl.nt ?_|refine Spl.mk (fun h=>?_) (fun h=>?_))))
   rfl
 ·rw [if_neg h2]
  refine FnC.intro ti_ok Tryz.func27 rfl Tryz.ntmps27 Tryz.call27 rfl (Nat.le_of_ble_eq_true rfl) rfl ?_
  (repeat' ((conv=>whnf);first|with_reducible refine gA ?_|((with_reducible refine callE_id ?_); (refine CallE.con ⟨_, hi, ?_⟩))|(with_reducible first|refine gB ?_|refine gZ (fun x hx hu=>?_)|refine gY (fun x hx=>?_)|refine gE ?_|refine Both.mk ?_ ?_|refine gS (fun h=>?_) (fun h=>?_)|refine Spl.nt ?_|refine Spl.mk (fun h=>?_) (fun h=>?_))))
  rfl
def lkp (f : Int → List UInt8) : List (List UInt8) → Int → Int × Int
 | [], n => (n, 0)
 | s :: t, n => if (stepV f n s).2 = 0 then lkp f t (stepV f n s).1 else (0, (stepV f n s).2)
def lookP (f : Int → List UInt8) (p : List UInt8) : Int × Int := if (splitP p).2 = 0 then lkp f (splitP p).1 0 else (0, (splitP p).2)
def lkI (f : Int → List UInt8) (ns : List (List UInt8)) (r : Int × Int) (x : Nat × Int) : Prop := x.1 ≤ ns.length ∧ lkp f (ns.drop x.1) x.2 = r
theorem splitP_nil {p : List UInt8} (h : ¬ (splitP p).2 = 0) : (splitP p).1 = [] := by
 unfold splitP at h ⊢
 split
 ·rfl
 ·rename_i h1
  rw [if_neg h1] at h
  cases p with
  | nil => rfl
  | cons b r =>
   simp only at h ⊢
   split
   ·rename_i h2
    rw [if_pos h2] at h
    split
    ·rename_i h3; rw [if_pos h3] at h; exact (h rfl).elim
    ·rfl
   ·rfl
theorem splitP_len (p : List UInt8) : (splitP p).1.length ≤ 4 := by
 unfold splitP
 split
 ·exact Nat.zero_le _
 ·split
  ·exact Nat.zero_le _
  ·split
   ·split
    ·rename_i h3; exact h3.1
    ·exact Nat.zero_le _
   ·exact Nat.zero_le _
theorem lookup_ok (d : Option Dk) (hd : DkOK d) (p : List UInt8) (hp : p.length ≤ 100000) : FnC Tryz.prog 12 [.d (encD d), .d (.st p)] (pairA (lookP (rdS d) p)) := by
 have hs := pathSplit_ok p hp
 have hst := fun n s => step_ok d hd n s
 generalize hR : lookP (rdS d) p = R
 unfold lookP at hR
 have hN : (splitP p).1.map stL = (splitP p).1.map stL := rfl
 unfold tupP at hs
 by_cases he : (splitP p).2 = 0
 ·rw [if_pos he] at hR
  rw [he] at hs
  have hnb := splitP_len p
  generalize hns : (splitP p).1 = ns at hs hR hnb
  have hnl : (ns.map stL).length = ns.length := List.length_map ..
  refine FnC.intro ti_ok Tryz.func12 rfl Tryz.ntmps12 Tryz.call12 rfl (Nat.le_of_ble_eq_true rfl) rfl ?_
  (repeat' ((conv=>whnf);first|with_reducible refine gA ?_|((with_reducible refine callE_id ?_); (refine CallE.con ⟨_, hs, ?_⟩))|(with_reducible first|refine gB ?_|refine gZ (fun x hx hu=>?_)|refine gY (fun x hx=>?_)|refine gE ?_|refine Both.mk ?_ ?_|refine gS (fun h=>?_) (fun h=>?_)|refine Spl.nt ?_|refine Spl.mk (fun h=>?_) (fun h=>?_))))
  conv => whnf
  refine loop_rule ti_ok (lkI (rdS d) ns R) (fun x => ⟨[(0, .d (encD d)), (7, .d (.it .i64 0)), (8, .d (.it .i64 x.2)), (16, .d (.fs 1 (ns.map stL))), (17, .d (.it .i64 (ns.length : Nat))), (18, .d (.it .i64 (x.1 : Nat)))], [], 0⟩) (fun x => ns.length - x.1) (0, 0) ⟨Nat.zero_le _, by rw [List.drop_zero]; exact hR⟩ ⟨And.intro rfl (And.intro rfl (And.intro rfl (And.intro rfl (And.intro (it_eq (by rw [hnl])) (And.intro rfl trivial))))), trivial, rfl⟩ ?_
  intro x hx
  have x1 := hx.1
  have x2 := hx.2
  by_cases hk : x.1 < ns.length
  ·have hsx := hst x.2 ns[x.1]
   have hget : ns[x.1]? = some ns[x.1] := List.getElem?_eq_getElem hk
   rw [List.drop_eq_getElem_cons hk, lkp] at x2
   unfold pairA at hsx
   by_cases hz : (stepV (rdS d) x.2 ns[x.1]).2 = 0
   ·rw [if_pos hz] at x2
    rw [hz] at hsx
    (repeat' ((conv=>whnf);first|with_reducible refine gA ?_|((with_reducible refine callE_id ?_); (refine CallE.con ⟨_, hsx, ?_⟩)) | with_reducible refine at_hm hget ?_|(with_reducible first|refine gB ?_|refine gZ (fun x hx hu=>?_)|refine gY (fun x hx=>?_)|refine gE ?_|refine Both.mk ?_ ?_|refine gS (fun h=>?_) (fun h=>?_)|refine Spl.nt ?_|refine Spl.mk (fun h=>?_) (fun h=>?_))))
    refine again (x.1 + 1, (stepV (rdS d) x.2 ns[x.1]).1) ⟨hk, x2⟩ (by dsimp only; omega) (And.intro rfl (And.intro rfl (And.intro rfl (And.intro rfl (And.intro rfl (And.intro (it_eq (by dsimp only; omega)) trivial)))))) trivial rfl
   ·rw [if_neg hz] at x2
    (repeat' ((conv=>whnf);first|with_reducible refine gA ?_|((with_reducible refine callE_id ?_); (refine CallE.con ⟨_, hsx, ?_⟩)) | with_reducible refine at_hm hget ?_|(with_reducible first|refine gB ?_|refine gZ (fun x hx hu=>?_)|refine gY (fun x hx=>?_)|refine gE ?_|refine Both.mk ?_ ?_|refine gS (fun h=>?_) (fun h=>?_)|refine Spl.nt ?_|refine Spl.mk (fun h=>?_) (fun h=>?_))))
    all_goals first | (exact congrArg pairA x2) | (exfalso; exact hz (by assumption))
  ·have hd0 : ns.drop x.1 = [] := List.drop_eq_nil_of_le (by omega)
   rw [hd0, lkp] at x2
   (repeat' ((conv=>whnf);first|with_reducible refine gA ?_|(with_reducible first|refine gB ?_|refine gZ (fun x hx hu=>?_)|refine gY (fun x hx=>?_)|refine gE ?_|refine Both.mk ?_ ?_|refine gS (fun h=>?_) (fun h=>?_)|refine Spl.nt ?_|refine Spl.mk (fun h=>?_) (fun h=>?_))))
   exact congrArg pairA x2
 ·rw [if_neg he] at hR
  rw [splitP_nil he] at hs
  refine FnC.intro ti_ok Tryz.func12 rfl Tryz.ntmps12 Tryz.call12 rfl (Nat.le_of_ble_eq_true rfl) rfl ?_
  (repeat' ((conv=>whnf);first|with_reducible refine gA ?_|((with_reducible refine callE_id ?_); (refine CallE.con ⟨_, hs, ?_⟩)) | with_reducible refine LoopS.unroll ti_ok 1 ?_|(with_reducible first|refine gB ?_|refine gZ (fun x hx hu=>?_)|refine gY (fun x hx=>?_)|refine gE ?_|refine Both.mk ?_ ?_|refine gS (fun h=>?_) (fun h=>?_)|refine Spl.nt ?_|refine Spl.mk (fun h=>?_) (fun h=>?_))))
  exact congrArg pairA hR
end Go.Proofs.YtmfokpfddponjaaGreatDoor
namespace Go.Proofs.YtmfokpfddponjaaGreatDoor
open Go.Sy
theorem lastAt_snoc (n : Int) (l : List Wr) (x : Wr) : lastAt n (l ++ [x]) = if x.a = n then some x.s else lastAt n l := by
 unfold lastAt
 rw [List.reverse_append]
 simp only [List.reverse_cons, List.reverse_nil, List.nil_append, List.singleton_append, List.find?_cons]
 by_cases h : x.a = n
 ·simp [h]
 ·simp [h]
theorem dsk_OK {m : List (List UInt8)} {ws : List Wr} (hm : ImOK m) (hw : WsOK ws) (hwl : ws.length ≤ 1000) : DkOK (dskOf m ws) := by
 unfold dskOf
 split
 ·rename_i h
  refine ⟨hm, fun w hw' => ?_, h.2, ?_⟩
  ·have hw' : w ∈ (ws.filter (okW m.length)).map fun w => { w with e := 0 } := hw'
   obtain ⟨x, hx, rfl⟩ := List.mem_map.1 hw'
   exact hw x (List.mem_filter.1 hx).1
  ·show ((ws.filter (okW m.length)).map _).length ≤ 100000
   rw [List.length_map]
   have := List.length_filter_le (okW m.length) ws
   omega
 ·trivial
end Go.Proofs.YtmfokpfddponjaaGreatDoor
namespace Go.Proofs.YtmfokpfddponjaaGreatDoor
open Go.Sy
def folderS : List UInt8 := [2, 0, 0, 0, 0, 0, 0, 0, 0, 0, 0, 0, 0, 0, 0, 0, 0, 0, 0, 0, 0, 0, 0, 0, 0, 0, 0, 0, 0, 0, 0, 0]
def emptyM : List (List UInt8) := superS :: folderS :: List.replicate 63 zeroS
def k1S : List UInt8 := [1, 0, 2, 1, 0, 0, 0, 0, 0, 0, 0, 0, 0, 0, 0, 0, 97, 0, 0, 0, 0, 0, 0, 0, 0, 0, 0, 0, 0, 0, 0, 0]
def k2S : List UInt8 := [1, 0, 0, 0, 0, 0, 0, 0, 0, 0, 0, 0, 0, 0, 0, 0, 0, 0, 0, 0, 0, 0, 0, 0, 0, 0, 0, 0, 0, 0, 0, 0]
def kW : List Wr := [⟨17, k1S, 0, 0, 0⟩, ⟨3, k2S, 0, 0, 0⟩]
theorem em_ok : ImOK emptyM := by
 intro s hs
 simp only [emptyM, List.mem_cons, List.mem_replicate] at hs
 rcases hs with rfl | rfl | ⟨_, rfl⟩ <;> rfl
theorem empty_ok : FnC Tryz.prog 16 [] (.d (encM emptyM)) := by
 have hs := refSuper_ok
 refine FnC.intro ti_ok Tryz.func16 rfl Tryz.ntmps16 Tryz.call16 rfl (Nat.le_of_ble_eq_true rfl) rfl ?_
 (repeat' ((conv=>whnf);first|with_reducible refine gA ?_|((with_reducible refine callE_id ?_); (refine CallE.con ⟨_, hs, ?_⟩))|(with_reducible first|refine gB ?_|refine gZ (fun x hx hu=>?_)|refine gY (fun x hx=>?_)|refine gE ?_|refine Both.mk ?_ ?_|refine gS (fun h=>?_) (fun h=>?_)|refine Spl.nt ?_|refine Spl.mk (fun h=>?_) (fun h=>?_))))
 refine ⟨emptyM.map encS, ⟨?_, ?_, ?_, ?_⟩, ?_⟩
 ·exact Nat.le_of_ble_eq_true (by kernel_rfl)
 ·kernel_rfl
 ·intro x hx
  obtain ⟨s, hs, rfl⟩ := List.mem_map.1 hx
  rw [encS_len]; exact em_ok s hs
 ·kernel_rfl
 ·rfl
def kD : Option Dk := dskOf emptyM kW
theorem f1 : lookP (rdS kD) [47, 97] = (2, 0) := by decide +kernel
theorem f2 : fndK (rdS kD) 0 [97] = some 0 := by decide +kernel
theorem f3 : lookP (rdS kD) [47, 98] = (0, 4) := by decide +kernel
theorem f4 : mntP (imgD kD) := by decide +kernel
theorem f5 : nmsK (rdS kD) 0 24 = [[97]] := by decide +kernel
theorem f6 : takP (rdS kD) 2 := by decide +kernel
theorem f7 : (inoAt (rdS kD) 2).k = 1 := by decide +kernel
theorem f8 : (entAt (rdS kD) 0).n = [97] := by decide +kernel
theorem f9 : (nms (rdS kD) 0).length = 1 := by
 unfold nms
 rw [f5]
 have h : sortS [[97]] = [[97]] := by simp [sortS]
 rw [h]
 decide +kernel
end Go.Proofs.YtmfokpfddponjaaGreatDoor
namespace Go.Proofs.YtmfokpfddponjaaGreatDoor
open Go.Sy
end Go.Proofs.YtmfokpfddponjaaGreatDoor
