/- Contracts of the functions that the law reaches, and the law. Conditions: none. -/
import Derived.Test.YtijdbjjkfkjihaaGreatDoorKA
import Derived.Test.YtijdbjjkfkjihaaGreatDoorSC
import Derived.Test.YtijdbjjkfkjihaaGreatDoorSD
set_option linter.all false
/- Some bytes of a sector. Conditions: none. -/
namespace Go.Proofs.YtijdbjjkfkjihaaGreatDoor
open Go.Sy
set_option maxRecDepth 100000
set_option linter.all false
theorem bytes_flat' : ∀ (n : List UInt8), (bytesD n).flatten = encS n
  | [] => rfl
  | b :: n => by show [D.it .u8 b.toNat] ++ (bytesD n).flatten = D.it .u8 b.toNat :: encS n; rw [bytes_flat' n]; rfl
set_option maxHeartbeats 4000000 in
theorem cut_ok (s : List UInt8) (hs : s.length = 32) (n : Nat) (hn : n < 256) : FnC Tryz.prog 124 [.dg 32 (encS s), .d (.it .i64 16), .d (.it .i64 (n : Nat))] (.d (.fs 1 (bytesD (if n ≤ 16 then (s.drop 16).take n else [])))) := by
  have hf := fits_ok 16 (n : Nat)
  by_cases h : n ≤ 16
  · rw [if_pos h]
    rw [decide_eq_true (by omega)] at hf
    refine FnC.intro ti_ok Tryz.func124 rfl Tryz.ntmps124 Tryz.call124 rfl (Nat.le_of_ble_eq_true rfl) rfl ?_
    (repeat' ((conv=>whnf);first|with_reducible refine gA ?_|((with_reducible refine callE_id ?_); first | refine CallE.con ⟨_, hf, ?_⟩ | refine CallE.inl ?_) | with_reducible refine CallI.inl ti_ok i58 rfl ?_|(with_reducible first|refine gB ?_|refine gZ (fun x hx hu=>?_)|refine gY (fun x hx=>?_)|refine gE ?_|refine Both.mk ?_ ?_|refine gS (fun h=>?_) (fun h=>?_)|refine Spl.nt ?_|refine Spl.mk (fun h=>?_) (fun h=>?_))))
    have hlen : ((16 + (n : Int)).toNat - Int.toNat 16) = n := by omega
    have hL : ((s.drop 16).take n).length = n := by rw [List.length_take, List.length_drop, hs]; omega
    refine ⟨bytesD ((s.drop 16).take n), ⟨?_, ?_, ?_, ?_, ?_⟩, ?_⟩
    · show 0 + Int.toNat 16 * 1 + ((16 + (n:Int)).toNat - Int.toNat 16) * 1 ≤ 32
      omega
    · show (bytesD ((s.drop 16).take n)).length = ((16 + (n:Int)).toNat - Int.toNat 16)
      rw [hlen]; unfold bytesD; rw [List.length_map, hL]
    · intro x hx
      show x.length = 1
      obtain ⟨b, _, rfl⟩ := List.mem_map.1 hx
      rfl
    · show (((encS s).map AV.d).drop (0 + Int.toNat 16 * 1)).take (((16 + (n:Int)).toNat - Int.toNat 16) * 1) = _
      rw [hlen, bytes_flat', Nat.mul_one]
      unfold encS
      rw [List.map_take, List.map_drop, List.map_take, List.map_drop]; rfl
    · show 0 + ((16 + (n:Int)).toNat - Int.toNat 16) ≤ 1073741824
      omega
    (repeat' ((conv=>whnf);first|with_reducible refine gA ?_|(with_reducible first|refine gB ?_|refine gZ (fun x hx hu=>?_)|refine gY (fun x hx=>?_)|refine gE ?_|refine Both.mk ?_ ?_|refine gS (fun h=>?_) (fun h=>?_)|refine Spl.nt ?_|refine Spl.mk (fun h=>?_) (fun h=>?_))))
    all_goals rfl
  · rw [if_neg h]
    rw [decide_eq_false (by omega)] at hf
    refine FnC.intro ti_ok Tryz.func124 rfl Tryz.ntmps124 Tryz.call124 rfl (Nat.le_of_ble_eq_true rfl) rfl ?_
    (repeat' ((conv=>whnf);first|with_reducible refine gA ?_|((with_reducible refine callE_id ?_); refine CallE.con ⟨_, hf, ?_⟩)|(with_reducible first|refine gB ?_|refine gZ (fun x hx hu=>?_)|refine gY (fun x hx=>?_)|refine gE ?_|refine Both.mk ?_ ?_|refine gS (fun h=>?_) (fun h=>?_)|refine Spl.nt ?_|refine Spl.mk (fun h=>?_) (fun h=>?_))))
    all_goals (show AV.d (.fs 1 []) = _; rfl)
end Go.Proofs.YtijdbjjkfkjihaaGreatDoor

/- Entries out of sectors. Conditions: none. -/
namespace Go.Proofs.YtijdbjjkfkjihaaGreatDoor
open Go.Sy
set_option maxRecDepth 100000
set_option linter.all false
def entNm (s : List UInt8) : List UInt8 := if (s.getD 3 0).toNat ≤ 16 then (s.drop 16).take (s.getD 3 0).toNat else []
def entOfR (s : List UInt8) : Ent := ⟨true, (s.getD 1 0).toNat, entNm s, (s.getD 2 0).toNat⟩
def ent0 : Ent := ⟨false, 0, [], 0⟩
def isEnt (s : List UInt8) : Prop := RE (entOfR s) ∧ s = entS (entOfR s)
instance (s : List UInt8) : Decidable (isEnt s) := by unfold isEnt; infer_instance
/-- What a sector tells of an entry. -/
def entOf (s : List UInt8) : Ent := if isEnt s then entOfR s else ent0
def entOk (s : List UInt8) : Bool := decide (s = zeroS ∨ isEnt s)
def entOfV (s : List UInt8) : AV := .tup [.dg 4 (encE (entOf s)), .d (.bl (entOk s))]
theorem zero_not : ¬ isEnt zeroS := by
  intro h
  have h1 := h.1
  unfold RE entOfR at h1
  rcases h1 with h1 | h1
  · cases h1.1
  · have : (1:Int) ≤ ((zeroS.getD 2 0).toNat : Int) := h1.2.2.2.1
    revert this; decide
set_option maxHeartbeats 4000000 in
theorem entOf_ok (s : List UInt8) (hs : s.length = 32) : FnC Tryz.prog 100 [.dg 32 (encS s)] (entOfV s) := by
  have hz := zero_ok s hs
  have c1 := (s.getD 1 0).toNat_lt
  have c2 := (s.getD 2 0).toNat_lt
  have c3 := (s.getD 3 0).toNat_lt
  have hc := cut_ok s hs (s.getD 3 0).toNat (by omega)
  have he := ent_ok (entOfR s)
  unfold entOfV
  by_cases h0 : s = zeroS
  · subst h0
    rw [decide_eq_true rfl] at hz
    rw [show entOf zeroS = ent0 from if_neg zero_not, show entOk zeroS = true from decide_eq_true (.inl rfl)]
    refine FnC.intro ti_ok Tryz.func100 rfl Tryz.ntmps100 Tryz.call100 rfl (Nat.le_of_ble_eq_true rfl) rfl ?_
    (repeat' ((conv=>whnf);first|with_reducible refine gA ?_|((with_reducible refine callE_id ?_); (refine CallE.con ⟨_, hz, ?_⟩)) | with_reducible refine AtA.mk' ?_|(with_reducible first|refine gB ?_|refine gZ (fun x hx hu=>?_)|refine gY (fun x hx=>?_)|refine gE ?_|refine Both.mk ?_ ?_|refine gS (fun h=>?_) (fun h=>?_)|refine Spl.nt ?_|refine Spl.mk (fun h=>?_) (fun h=>?_))))
    all_goals rfl
  rw [decide_eq_false h0] at hz
  have hEq : encE (entOfR s) = [.bl true, .it .i64 (s.getD 1 0).toNat, .st (entNm s), .it .i64 (s.getD 2 0).toNat] := rfl
  by_cases h1 : RE (entOfR s)
  · have hel := entS_len _ h1
    rw [entR, if_pos h1] at he
    have heq := eqS s (entS (entOfR s)) (by rw [hs, hel])
    by_cases h2 : s = entS (entOfR s)
    · rw [show entOf s = entOfR s from if_pos ⟨h1, h2⟩, show entOk s = true from decide_eq_true (.inr ⟨h1, h2⟩)]
      rw [decide_eq_true h2] at heq
      refine FnC.intro ti_ok Tryz.func100 rfl Tryz.ntmps100 Tryz.call100 rfl (Nat.le_of_ble_eq_true rfl) rfl ?_
      (repeat' ((conv=>whnf);first|with_reducible refine gA ?_|((with_reducible refine callE_id ?_); first | (refine CallE.con ⟨_, hz, ?_⟩) | (refine CallE.con ⟨_, he, ?_⟩)) | refine CallP.mk ⟨_, hc, ?_⟩ | ((with_reducible refine drawS_id ?_); (refine draw_newA ti_ok mixed ?_)) | ((with_reducible refine letC_id ?_); refine LetC.mk ((encS (entS (entOfR s))).map AV.d) (st_all _) ?_) | refine AtA.eq (ld_byte rfl (byte_at hs 1 (by decide))) ?_ | refine AtA.eq (ld_byte rfl (byte_at hs 2 (by decide))) ?_ | refine AtA.eq (ld_byte rfl (byte_at hs 3 (by decide))) ?_ | refine AtA.eq (ld_sec rfl rfl hs) ?_ | refine AtA.eq (ld_sec rfl rfl hel) ?_ | refine cond_tt (likeSS _ _ hs hel) ?_ | ((with_reducible refine exi_id ?_); refine ⟨entNm s, rfl, ?_⟩)|(with_reducible first|refine gB ?_|refine gZ (fun x hx hu=>?_)|refine gY (fun x hx=>?_)|refine gE ?_|refine Both.mk ?_ ?_|refine gS (fun h=>?_) (fun h=>?_)|refine Spl.nt ?_|refine Spl.mk (fun h=>?_) (fun h=>?_))))
      all_goals rfl
    · rw [show entOf s = ent0 from if_neg (fun q => h2 q.2), show entOk s = false from decide_eq_false (fun q => q.elim h0 fun q => h2 q.2)]
      rw [decide_eq_false h2] at heq
      refine FnC.intro ti_ok Tryz.func100 rfl Tryz.ntmps100 Tryz.call100 rfl (Nat.le_of_ble_eq_true rfl) rfl ?_
      (repeat' ((conv=>whnf);first|with_reducible refine gA ?_|((with_reducible refine callE_id ?_); first | (refine CallE.con ⟨_, hz, ?_⟩) | (refine CallE.con ⟨_, he, ?_⟩)) | refine CallP.mk ⟨_, hc, ?_⟩ | ((with_reducible refine drawS_id ?_); (refine draw_newA ti_ok mixed ?_)) | ((with_reducible refine letC_id ?_); refine LetC.mk ((encS (entS (entOfR s))).map AV.d) (st_all _) ?_) | refine AtA.eq (ld_byte rfl (byte_at hs 1 (by decide))) ?_ | refine AtA.eq (ld_byte rfl (byte_at hs 2 (by decide))) ?_ | refine AtA.eq (ld_byte rfl (byte_at hs 3 (by decide))) ?_ | refine AtA.eq (ld_sec rfl rfl hs) ?_ | refine AtA.eq (ld_sec rfl rfl hel) ?_ | refine cond_tt (likeSS _ _ hs hel) ?_ | ((with_reducible refine exi_id ?_); refine ⟨entNm s, rfl, ?_⟩)|(with_reducible first|refine gB ?_|refine gZ (fun x hx hu=>?_)|refine gY (fun x hx=>?_)|refine gE ?_|refine Both.mk ?_ ?_|refine gS (fun h=>?_) (fun h=>?_)|refine Spl.nt ?_|refine Spl.mk (fun h=>?_) (fun h=>?_))))
      all_goals rfl
  · have hel : zeroS.length = 32 := rfl
    rw [entR, if_neg h1] at he
    rw [show entOf s = ent0 from if_neg (fun q => h1 q.1), show entOk s = false from decide_eq_false (fun q => q.elim h0 fun q => h1 q.1)]
    refine FnC.intro ti_ok Tryz.func100 rfl Tryz.ntmps100 Tryz.call100 rfl (Nat.le_of_ble_eq_true rfl) rfl ?_
    (repeat' ((conv=>whnf);first|with_reducible refine gA ?_|((with_reducible refine callE_id ?_); first | (refine CallE.con ⟨_, hz, ?_⟩) | (refine CallE.con ⟨_, he, ?_⟩)) | refine CallP.mk ⟨_, hc, ?_⟩ | ((with_reducible refine drawS_id ?_); (refine draw_newA ti_ok mixed ?_)) | ((with_reducible refine letC_id ?_); refine LetC.mk ((encS zeroS).map AV.d) (st_all _) ?_) | refine AtA.eq (ld_byte rfl (byte_at hs 1 (by decide))) ?_ | refine AtA.eq (ld_byte rfl (byte_at hs 2 (by decide))) ?_ | refine AtA.eq (ld_byte rfl (byte_at hs 3 (by decide))) ?_ | refine AtA.eq (ld_sec rfl rfl hs) ?_ | refine AtA.eq (ld_sec rfl rfl hel) ?_ | refine cond_tt (likeSS _ _ hs hel) ?_ | ((with_reducible refine exi_id ?_); refine ⟨entNm s, rfl, ?_⟩)|(with_reducible first|refine gB ?_|refine gZ (fun x hx hu=>?_)|refine gY (fun x hx=>?_)|refine gE ?_|refine Both.mk ?_ ?_|refine gS (fun h=>?_) (fun h=>?_)|refine Spl.nt ?_|refine Spl.mk (fun h=>?_) (fun h=>?_))))
    all_goals rfl
end Go.Proofs.YtijdbjjkfkjihaaGreatDoor

/- Entries out of sectors, by the document's answer. Conditions: none. -/
namespace Go.Proofs.YtijdbjjkfkjihaaGreatDoor
open Go.Sy
set_option maxRecDepth 100000
set_option linter.all false
end Go.Proofs.YtijdbjjkfkjihaaGreatDoor

/- Disks as data; a sector read. Conditions: none. -/
namespace Go.Proofs.YtijdbjjkfkjihaaGreatDoor
open Go.Sy
set_option maxRecDepth 100000
set_option linter.all false
/-- A write that waits. -/
structure Wr where
  a : Int
  s : List UInt8
  k : Int
  i : Int
  e : Int
deriving DecidableEq
def encW (w : Wr) : List D := [.it .i64 w.a] ++ encS w.s ++ [.it .i64 w.k, .it .i64 w.i, .it .i64 w.e]
/-- A disk: how many events were asked for; what is safe, what waits, the events (as they stand), the epoch. -/
structure Dk where
  nx : Int
  safe : List (List UInt8)
  wait : List Wr
  log : List (List D)
  ep : Int
def encDk (d : Dk) : List D := [.ot (.map none), .it .i64 d.nx, .fs 32 (d.safe.map encS), .fs 36 (d.wait.map encW), .fs 38 d.log, .it .i64 d.ep]
def encD : Option Dk → D
  | none => .ot (.pointer none)
  | some d => .fp 6 (encDk d)
def DkOK : Option Dk → Prop
  | none => True
  | some d => (∀ s ∈ d.safe, s.length = 32) ∧ (∀ w ∈ d.wait, w.s.length = 32) ∧ d.safe.length ≤ 65 ∧ d.wait.length ≤ 100000
def noneB : Option Dk → Bool
  | none => true
  | some d => decide (d.safe.length = 0)
def hasP (d : Option Dk) (n : Int) : Prop :=
  match d with
  | none => False
  | some d => 0 ≤ n ∧ n < d.safe.length
instance (d : Option Dk) (n : Int) : Decidable (hasP d n) := by unfold hasP; cases d <;> infer_instance
def lastAt (n : Int) (w : List Wr) : Option (List UInt8) := (w.reverse.find? (fun x => decide (x.a = n))).map (·.s)
/-- A sector as it is read. -/
def rdS (d : Option Dk) (n : Int) : List UInt8 :=
  match d with
  | none => zeroS
  | some d => if 0 ≤ n ∧ n < d.safe.length then (match lastAt n d.wait with | some s => s | none => d.safe.getD n.toNat zeroS) else zeroS
def rdE (d : Option Dk) (n : Int) : Int := if hasP d n then 0 else 1
theorem rdS_len {d : Option Dk} (h : DkOK d) (n : Int) : (rdS d n).length = 32 := by
  cases d with
  | none => rfl
  | some d =>
    obtain ⟨h1, h2, _⟩ := h
    simp only [rdS]
    split
    · split
      · rename_i s hs
        simp only [lastAt, Option.map_eq_some_iff] at hs
        obtain ⟨w, hw, rfl⟩ := hs
        exact h2 w (by simpa using List.mem_of_find?_eq_some hw)
      · rw [List.getD_eq_getElem?_getD]
        cases hq : d.safe[n.toNat]? with
        | none => rfl
        | some s => exact h1 s (List.mem_of_getElem? hq)
    · rfl
theorem none_ok (d : Option Dk) : FnC Tryz.prog 68 [.d (encD d)] (.d (.bl (noneB d))) := by
  cases d with
  | none =>
    refine FnC.intro ti_ok Tryz.func68 rfl Tryz.ntmps68 Tryz.call68 rfl (Nat.le_of_ble_eq_true rfl) rfl ?_
    (repeat' ((conv=>whnf);first|with_reducible refine gA ?_|(with_reducible first|refine gB ?_|refine gZ (fun x hx hu=>?_)|refine gY (fun x hx=>?_)|refine gE ?_|refine Both.mk ?_ ?_|refine gS (fun h=>?_) (fun h=>?_)|refine Spl.nt ?_|refine Spl.mk (fun h=>?_) (fun h=>?_))))
    rfl
  | some d =>
    refine FnC.intro ti_ok Tryz.func68 rfl Tryz.ntmps68 Tryz.call68 rfl (Nat.le_of_ble_eq_true rfl) rfl ?_
    (repeat' ((conv=>whnf);first|with_reducible refine gA ?_|(with_reducible first|refine gB ?_|refine gZ (fun x hx hu=>?_)|refine gY (fun x hx=>?_)|refine gE ?_|refine Both.mk ?_ ?_|refine gS (fun h=>?_) (fun h=>?_)|refine Spl.nt ?_|refine Spl.mk (fun h=>?_) (fun h=>?_))))
    refine bl_eq ?_
    show (((d.safe.map encS).length : Int) == 0) = decide (d.safe.length = 0)
    rw [List.length_map, Bool.eq_iff_iff, beq_iff_eq, decide_eq_true_eq]; omega
theorem has_ok (d : Option Dk) (n : Int) : FnC Tryz.prog 70 [.d (encD d), .d (.it .i64 n)] (.d (.bl (decide (hasP d n)))) := by
  have hn := none_ok d
  cases d with
  | none =>
    refine FnC.intro ti_ok Tryz.func70 rfl Tryz.ntmps70 Tryz.call70 rfl (Nat.le_of_ble_eq_true rfl) rfl ?_
    (repeat' ((conv=>whnf);first|with_reducible refine gA ?_|((with_reducible refine callE_id ?_); (refine CallE.con ⟨_, hn, ?_⟩))|(with_reducible first|refine gB ?_|refine gZ (fun x hx hu=>?_)|refine gY (fun x hx=>?_)|refine gE ?_|refine Both.mk ?_ ?_|refine gS (fun h=>?_) (fun h=>?_)|refine Spl.nt ?_|refine Spl.mk (fun h=>?_) (fun h=>?_))))
    rfl
  | some d =>
    by_cases h : d.safe.length = 0
    · rw [show noneB (some d) = true from decide_eq_true h] at hn
      refine FnC.intro ti_ok Tryz.func70 rfl Tryz.ntmps70 Tryz.call70 rfl (Nat.le_of_ble_eq_true rfl) rfl ?_
      (repeat' ((conv=>whnf);first|with_reducible refine gA ?_|((with_reducible refine callE_id ?_); (refine CallE.con ⟨_, hn, ?_⟩))|(with_reducible first|refine gB ?_|refine gZ (fun x hx hu=>?_)|refine gY (fun x hx=>?_)|refine gE ?_|refine Both.mk ?_ ?_|refine gS (fun h=>?_) (fun h=>?_)|refine Spl.nt ?_|refine Spl.mk (fun h=>?_) (fun h=>?_))))
      exact bl_ff (by show ¬ (0 ≤ n ∧ n < d.safe.length); omega)
    · rw [show noneB (some d) = false from decide_eq_false h] at hn
      refine FnC.intro ti_ok Tryz.func70 rfl Tryz.ntmps70 Tryz.call70 rfl (Nat.le_of_ble_eq_true rfl) rfl ?_
      (repeat' ((conv=>whnf);first|with_reducible refine gA ?_|((with_reducible refine callE_id ?_); (refine CallE.con ⟨_, hn, ?_⟩))|(with_reducible first|refine gB ?_|refine gZ (fun x hx hu=>?_)|refine gY (fun x hx=>?_)|refine gE ?_|refine Both.mk ?_ ?_|refine gS (fun h=>?_) (fun h=>?_)|refine Spl.nt ?_|refine Spl.mk (fun h=>?_) (fun h=>?_))))
      all_goals first
        | exact bl_ff (by show ¬ (0 ≤ n ∧ n < d.safe.length); omega)
        | exact bl_dec (by show n < ((d.safe.map encS).length : Int) ↔ (0 ≤ n ∧ n < (d.safe.length : Int)); rw [List.length_map]; omega)
theorem at_him {α β : Type} {e : α → β} {l : List α} {n : Int} {x : α} {K : β → Prop} (h0 : 0 ≤ n ∧ n < l.length) (hx : l[n.toNat]? = some x) (h : K (e x)) :
    (0 ≤ n ∧ n < (l.map e).length) ∧ ∀ c, (l.map e)[n.toNat]? = some c → K c :=
  at_intm h0 fun y hy => by rw [hx] at hy; obtain rfl := Option.some.inj hy; exact h
theorem encW_len {w : Wr} (h : w.s.length = 32) : (encW w).length = 36 := by unfold encW; simp [encS_len, h]
theorem st_tk {l : List D} {n : Nat} (h : l.length = n) : l.map AV.d = [] ++ (l.take n).map AV.d ++ [] := by
  rw [List.take_of_length_le (by omega), List.nil_append, List.append_nil]
theorem lastAt_hit {n : Int} {l : List Wr} {k : Nat} {w : Wr} (h : ∀ j, j < k → ∀ x, l.reverse[j]? = some x → x.a ≠ n) (hw : l.reverse[k]? = some w) (ha : w.a = n) : lastAt n l = some w.s := by
  unfold lastAt
  have hk := (List.getElem?_eq_some_iff.1 hw).1
  rw [List.find?_eq_some_iff_getElem.2 ⟨by simpa using ha, k, hk, (List.getElem?_eq_some_iff.1 hw).2, fun j hj => by
    have := h j hj _ (List.getElem?_eq_getElem (by omega))
    simpa using this⟩]
  rfl
theorem lastAt_none {n : Int} {l : List Wr} (h : ∀ j, j < l.length → ∀ x, l.reverse[j]? = some x → x.a ≠ n) : lastAt n l = none := by
  unfold lastAt
  rw [Option.map_eq_none_iff, List.find?_eq_none]
  intro x hx
  obtain ⟨j, hj, rfl⟩ := List.getElem_of_mem hx
  have := h j (by simpa using hj) _ (List.getElem?_eq_getElem hj)
  simpa using this
theorem hpd {d : Dk} {n : Int} : hasP (some d) n ↔ (0 ≤ n ∧ n < d.safe.length) := Iff.rfl
theorem ldW {w : Wr} (hs : w.s.length = 32) {ty : Ty} (ha : ty.kd.agg = true) (hz : ty.size = 32) : ldA ty 1 ((encW w).map AV.d) = .dg 32 (encS w.s) := by
  unfold ldA
  rw [ha, cond_true, hz]
  have h1 : (((encW w).map AV.d).drop 1).take 32 = (encS w.s).map AV.d := by
    show ((encS w.s ++ _).map AV.d).take 32 = _
    rw [List.map_append, List.take_append_of_le_length (by rw [List.length_map, encS_len, hs]; exact Nat.le_refl _), List.take_of_length_le (by rw [List.length_map, encS_len, hs]; exact Nat.le_refl _)]
  rw [h1]
  unfold mkAg
  rw [allD_map]
set_option maxHeartbeats 4000000 in
theorem read_ok (d : Option Dk) (hd : DkOK d) (n : Int) : FnC Tryz.prog 86 [.d (encD d), .d (.it .i64 n)] (.tup [.dg 32 (encS (rdS d n)), .d (.it .i64 (rdE d n))]) := by
  have hh := has_ok d n
  by_cases h : hasP d n
  rotate_left
  · rw [decide_eq_false h] at hh
    rw [show rdE d n = 1 from if_neg h, show rdS d n = zeroS by cases d with | none => rfl | some d => exact if_neg h]
    refine FnC.intro ti_ok Tryz.func86 rfl Tryz.ntmps86 Tryz.call86 rfl (Nat.le_of_ble_eq_true rfl) rfl ?_
    (repeat' ((conv=>whnf);first|with_reducible refine gA ?_|((with_reducible refine callE_id ?_); (refine CallE.con ⟨_, hh, ?_⟩)) | with_reducible refine AtA.mk' ?_|(with_reducible first|refine gB ?_|refine gZ (fun x hx hu=>?_)|refine gY (fun x hx=>?_)|refine gE ?_|refine Both.mk ?_ ?_|refine gS (fun h=>?_) (fun h=>?_)|refine Spl.nt ?_|refine Spl.mk (fun h=>?_) (fun h=>?_))))
    rfl
  rw [decide_eq_true h] at hh
  cases d with
  | none => exact h.elim
  | some d =>
    obtain ⟨hd1, hd2, hd3, hd4⟩ := hd
    obtain ⟨h0, h1⟩ := hpd.1 h
    rw [show rdE (some d) n = 0 from if_pos h, show rdS (some d) n = (match lastAt n d.wait with | some s => s | none => d.safe.getD n.toNat zeroS) from if_pos h]
    generalize hR : (match lastAt n d.wait with | some s => s | none => d.safe.getD n.toNat zeroS) = R
    refine FnC.intro ti_ok Tryz.func86 rfl Tryz.ntmps86 Tryz.call86 rfl (Nat.le_of_ble_eq_true rfl) rfl ?_
    (repeat' ((conv=>whnf);first|with_reducible refine gA ?_|((with_reducible refine callE_id ?_); first | (refine CallE.con ⟨_, hh, ?_⟩) | refine CallE.inl ?_) | with_reducible refine CallI.inl ti_ok i111 rfl ?_ | with_reducible refine AtA.mk' ?_|(with_reducible first|refine gB ?_|refine gZ (fun x hx hu=>?_)|refine gY (fun x hx=>?_)|refine gE ?_|refine Both.mk ?_ ?_|refine gS (fun h=>?_) (fun h=>?_)|refine Spl.nt ?_|refine Spl.mk (fun h=>?_) (fun h=>?_))))
    refine RangeS.intro ti_ok i133 rfl rfl ?_
    (repeat' ((conv=>whnf);first|with_reducible refine gA ?_|(with_reducible first|refine gB ?_|refine gZ (fun x hx hu=>?_)|refine gY (fun x hx=>?_)|refine gE ?_|refine Both.mk ?_ ?_|refine gS (fun h=>?_) (fun h=>?_)|refine Spl.nt ?_|refine Spl.mk (fun h=>?_) (fun h=>?_))))
    have hwl : (d.wait.map encW).length = d.wait.length := List.length_map ..
    refine loop_mem0 ti_ok (fun k : Nat => k ≤ d.wait.length ∧ ∀ j, j < k → ∀ x, d.wait.reverse[j]? = some x → x.a ≠ n) (fun k => [(0, .yld 6), (1, .ptr 4 0), (3, .d (.it .i64 ((d.wait.length : Nat) - 1 - (k : Nat))))]) (fun k => d.wait.length - k) 0 ⟨Nat.zero_le _, fun j hj => by omega⟩ ⟨rfl, rfl, it_eq (by rw [hwl]; omega), trivial⟩ rfl ?_
    intro k ⟨k1, k2⟩
    rcases Nat.lt_or_ge k d.wait.length with hkl | hkl
    · obtain ⟨w, hw⟩ := lt_get (l := d.wait) (k := d.wait.length - 1 - k) (by omega)
      have hw' : d.wait[((d.wait.length : Int) - 1 - k).toNat]? = some w := by rw [show ((d.wait.length : Int) - 1 - k).toNat = d.wait.length - 1 - k by omega]; exact hw
      have hrev : d.wait.reverse[k]? = some w := by rw [List.getElem?_reverse hkl]; exact hw
      have hws := hd2 w (List.mem_of_getElem? hw)
      (repeat' ((conv=>whnf);first|with_reducible refine gA ?_|with_reducible refine YieldI.intro ti_ok (by with_unfolding_all exact rfl) (by with_unfolding_all exact rfl) (by with_unfolding_all exact rfl) ?_ | ((with_reducible refine letC_id ?_); first | refine LetC.mk ((encW w).map AV.d) (st_tk (encW_len hws)) ?_ | refine LetC.mk ((encS w.s).map AV.d) (st_all _) ?_) | refine AtA.eq (ldW hws rfl rfl) ?_ | with_reducible refine AtA.mk' ?_ | with_reducible refine at_him (x := w) (by omega) hw' ?_|(with_reducible first|refine gB ?_|refine gZ (fun x hx hu=>?_)|refine gY (fun x hx=>?_)|refine gE ?_|refine Both.mk ?_ ?_|refine gS (fun h=>?_) (fun h=>?_)|refine Spl.nt ?_|refine Spl.mk (fun h=>?_) (fun h=>?_))))
      · have : R = w.s := by rw [← hR, lastAt_hit k2 hrev (by assumption)]
        subst this
        conv => whnf
        conv in (ldA _ _ _) => tactic => exact ld_sec rfl rfl hws
        rfl
      · refine againM0 (k + 1) ⟨by omega, fun j hj x hx => ?_⟩ (by dsimp only; omega) (And.intro rfl (And.intro rfl (And.intro (it_eq (by omega)) trivial))) (by (repeat (first | exact trivial | refine And.intro rfl ?_))) rfl
        rcases Nat.lt_or_ge j k with hjk | hjk
        · exact k2 j hjk x hx
        · obtain rfl : j = k := by omega
          obtain rfl : w = x := Option.some.inj (hrev.symm.trans hx)
          assumption
    · have : R = d.safe.getD n.toNat zeroS := by rw [← hR, lastAt_none (fun j hj => k2 j (by omega))]
      obtain ⟨s, hsn⟩ := lt_get (l := d.safe) (k := n.toNat) (by omega)
      have hsl := hd1 s (List.mem_of_getElem? hsn)
      rw [List.getD_eq_getElem?_getD, hsn] at this
      have this : R = s := this
      rw [this]
      (repeat' ((conv=>whnf);first|with_reducible refine gA ?_|((with_reducible refine letC_id ?_); refine LetC.mk ((encS s).map AV.d) (st_tk (by rw [encS_len]; exact hsl)) ?_) | with_reducible refine AtA.mk' ?_ | with_reducible refine at_him (x := s) (by omega) hsn ?_|(with_reducible first|refine gB ?_|refine gZ (fun x hx hu=>?_)|refine gY (fun x hx=>?_)|refine gE ?_|refine Both.mk ?_ ?_|refine gS (fun h=>?_) (fun h=>?_)|refine Spl.nt ?_|refine Spl.mk (fun h=>?_) (fun h=>?_))))
      conv => whnf
      conv in (ldA _ _ _) => tactic => exact ld_sec rfl rfl hsl
      rfl
end Go.Proofs.YtijdbjjkfkjihaaGreatDoor

/- Inodes and entries of a disk, and of an image. Conditions: none. -/
namespace Go.Proofs.YtijdbjjkfkjihaaGreatDoor
open Go.Sy
set_option maxRecDepth 100000
set_option linter.all false
def inoB (s : List UInt8) : Prop := RI (inoOfR s) ∧ s = inoS (inoOfR s)
instance (s : List UInt8) : Decidable (inoB s) := by unfold inoB; infer_instance
def inoOf (s : List UInt8) : Ino := if inoB s then inoOfR s else ino0
theorem inoOfV_eq (s : List UInt8) : inoOfV s = .tup [.dg 6 (encI (inoOf s)), .d (.bl (decide (inoB s)))] := by
  unfold inoOfV inoOf
  by_cases h : inoB s
  · have h' : RI (inoOfR s) ∧ s = inoS (inoOfR s) := h
    rw [if_pos h', if_pos h, decide_eq_true h]
  · have h' : ¬ (RI (inoOfR s) ∧ s = inoS (inoOfR s)) := h
    rw [if_neg h', if_neg h, decide_eq_false h]
/-- Inode n, entry k of a disk by its sectors. -/
def inoAt (f : Int → List UInt8) (n : Int) : Ino := if 0 ≤ n ∧ n < 16 then inoOf (f (1 + n)) else ino0
def entAt (f : Int → List UInt8) (k : Int) : Ent := if 0 ≤ k ∧ k < 24 then entOf (f (17 + k)) else ent0
/-- A sector of an image. -/
def imS (m : List (List UInt8)) (n : Int) : List UInt8 := m.getD n.toNat zeroS
def ImOK (m : List (List UInt8)) : Prop := ∀ s ∈ m, s.length = 32
abbrev encM (m : List (List UInt8)) : D := .fs 32 (m.map encS)
theorem at_ok (d : Option Dk) (hd : DkOK d) (n : Int) : FnC Tryz.prog 52 [.d (encD d), .d (.it .i64 n)] (.dg 32 (encS (rdS d n))) := by
  have hr := read_ok d hd n
  have hl := rdS_len hd n
  refine FnC.intro ti_ok Tryz.func52 rfl Tryz.ntmps52 Tryz.call52 rfl (Nat.le_of_ble_eq_true rfl) rfl ?_
  (repeat' ((conv=>whnf);first|with_reducible refine gA ?_|((with_reducible refine callE_id ?_); (refine CallE.con ⟨_, hr, ?_⟩)) | ((with_reducible refine letC_id ?_); refine LetC.mk ((encS (rdS d n)).map AV.d) (st_all _) ?_) | refine AtA.eq (ld_sec rfl rfl hl) ?_|(with_reducible first|refine gB ?_|refine gZ (fun x hx hu=>?_)|refine gY (fun x hx=>?_)|refine gE ?_|refine Both.mk ?_ ?_|refine gS (fun h=>?_) (fun h=>?_)|refine Spl.nt ?_|refine Spl.mk (fun h=>?_) (fun h=>?_))))
  conv => whnf
  conv in (ldA _ _ _) => tactic => exact ld_sec rfl rfl hl
  rfl
theorem inode_ok (d : Option Dk) (hd : DkOK d) (n : Int) : FnC Tryz.prog 23 [.d (encD d), .d (.it .i64 n)] (.dg 6 (encI (inoAt (rdS d) n))) := by
  by_cases h : 0 ≤ n ∧ n < 16
  · have ha := at_ok d hd (1 + n)
    have hi := inoOf_ok (rdS d (1 + n)) (rdS_len hd _)
    rw [inoOfV_eq] at hi
    rw [show inoAt (rdS d) n = inoOf (rdS d (1 + n)) from if_pos h]
    refine FnC.intro ti_ok Tryz.func23 rfl Tryz.ntmps23 Tryz.call23 rfl (Nat.le_of_ble_eq_true rfl) rfl ?_
    (repeat' ((conv=>whnf);first|with_reducible refine gA ?_|((with_reducible refine callE_id ?_); first | (refine CallE.con ⟨_, ha, ?_⟩) | (refine CallE.con ⟨_, hi, ?_⟩))|(with_reducible first|refine gB ?_|refine gZ (fun x hx hu=>?_)|refine gY (fun x hx=>?_)|refine gE ?_|refine Both.mk ?_ ?_|refine gS (fun h=>?_) (fun h=>?_)|refine Spl.nt ?_|refine Spl.mk (fun h=>?_) (fun h=>?_))))
    rfl
  · rw [show inoAt (rdS d) n = ino0 from if_neg h]
    refine FnC.intro ti_ok Tryz.func23 rfl Tryz.ntmps23 Tryz.call23 rfl (Nat.le_of_ble_eq_true rfl) rfl ?_
    by_cases h0 : n < 0
    all_goals (repeat' ((conv=>whnf);first|with_reducible refine gA ?_|(with_reducible first|refine gB ?_|refine gZ (fun x hx hu=>?_)|refine gY (fun x hx=>?_)|refine gE ?_|refine Both.mk ?_ ?_|refine gS (fun h=>?_) (fun h=>?_)|refine Spl.nt ?_|refine Spl.mk (fun h=>?_) (fun h=>?_))))
    all_goals first | omega | rfl
theorem entry_ok (d : Option Dk) (hd : DkOK d) (n : Int) : FnC Tryz.prog 63 [.d (encD d), .d (.it .i64 n)] (.dg 4 (encE (entAt (rdS d) n))) := by
  by_cases h : 0 ≤ n ∧ n < 24
  · have ha := at_ok d hd (17 + n)
    have hi := entOf_ok (rdS d (17 + n)) (rdS_len hd _)
    rw [entOfV] at hi
    rw [show entAt (rdS d) n = entOf (rdS d (17 + n)) from if_pos h]
    refine FnC.intro ti_ok Tryz.func63 rfl Tryz.ntmps63 Tryz.call63 rfl (Nat.le_of_ble_eq_true rfl) rfl ?_
    (repeat' ((conv=>whnf);first|with_reducible refine gA ?_|((with_reducible refine callE_id ?_); first | (refine CallE.con ⟨_, ha, ?_⟩) | (refine CallE.con ⟨_, hi, ?_⟩))|(with_reducible first|refine gB ?_|refine gZ (fun x hx hu=>?_)|refine gY (fun x hx=>?_)|refine gE ?_|refine Both.mk ?_ ?_|refine gS (fun h=>?_) (fun h=>?_)|refine Spl.nt ?_|refine Spl.mk (fun h=>?_) (fun h=>?_))))
    rfl
  · rw [show entAt (rdS d) n = ent0 from if_neg h]
    refine FnC.intro ti_ok Tryz.func63 rfl Tryz.ntmps63 Tryz.call63 rfl (Nat.le_of_ble_eq_true rfl) rfl ?_
    by_cases h0 : n < 0
    all_goals (repeat' ((conv=>whnf);first|with_reducible refine gA ?_|(with_reducible first|refine gB ?_|refine gZ (fun x hx hu=>?_)|refine gY (fun x hx=>?_)|refine gE ?_|refine Both.mk ?_ ?_|refine gS (fun h=>?_) (fun h=>?_)|refine Spl.nt ?_|refine Spl.mk (fun h=>?_) (fun h=>?_))))
    all_goals first | omega | rfl
end Go.Proofs.YtijdbjjkfkjihaaGreatDoor

/- Is an inode taken? Is it a disk of files? Conditions: none. -/
namespace Go.Proofs.YtijdbjjkfkjihaaGreatDoor
open Go.Sy
set_option maxRecDepth 100000
set_option linter.all false
def takP (f : Int → List UInt8) (n : Int) : Prop := n = 0 ∨ ∃ k : Nat, k < 24 ∧ (entAt f k).u = true ∧ (entAt f k).t = n
instance (f : Int → List UInt8) (n : Int) : Decidable (takP f n) := by unfold takP; infer_instance
def superS : List UInt8 := [70, 76, 79, 84, 0, 0, 0, 0, 0, 0, 0, 0, 0, 0, 0, 0, 0, 0, 0, 0, 0, 0, 0, 0, 0, 0, 0, 0, 0, 0, 0, 0]
theorem refSuper_ok : FnC Tryz.prog 59 [] (.dg 32 (encS superS)) := by
  refine FnC.intro ti_ok Tryz.func59 rfl Tryz.ntmps59 Tryz.call59 rfl (Nat.le_of_ble_eq_true rfl) rfl ?_
  (repeat' ((conv=>whnf);first|with_reducible refine gA ?_|with_reducible refine AtA.mk' ?_|(with_reducible first|refine gB ?_|refine gZ (fun x hx hu=>?_)|refine gY (fun x hx=>?_)|refine gE ?_|refine Both.mk ?_ ?_|refine gS (fun h=>?_) (fun h=>?_)|refine Spl.nt ?_|refine Spl.mk (fun h=>?_) (fun h=>?_))))
  rfl
end Go.Proofs.YtijdbjjkfkjihaaGreatDoor

/- Is it a disk of files? Conditions: none. -/
namespace Go.Proofs.YtijdbjjkfkjihaaGreatDoor
open Go.Sy
set_option maxRecDepth 100000
set_option linter.all false
def mntP (m : List (List UInt8)) : Prop := m.length = 65 ∧ imS m 0 = superS ∧ inoB (imS m 1) ∧ (inoOf (imS m 1)).k = 2
instance (m : List (List UInt8)) : Decidable (mntP m) := by unfold mntP; infer_instance
end Go.Proofs.YtijdbjjkfkjihaaGreatDoor

/- A disk out of an image and writes. Conditions: none. -/
namespace Go.Proofs.YtijdbjjkfkjihaaGreatDoor
open Go.Sy
set_option maxRecDepth 100000
set_option linter.all false
def sec32 (g : Nat → UInt8) : List UInt8 := [g 0, g 1, g 2, g 3, g 4, g 5, g 6, g 7, g 8, g 9, g 10, g 11, g 12, g 13, g 14, g 15, g 16, g 17, g 18, g 19, g 20, g 21, g 22, g 23, g 24, g 25, g 26, g 27, g 28, g 29, g 30, g 31]
theorem is32 {s : List UInt8} (h : s.length = 32) : ∃ g, s = sec32 g := by
  refine ⟨fun i => s.getD i 0, ?_⟩
  refine List.ext_getElem (by rw [h]; rfl) fun i h1 h2 => ?_
  have h3 : sec32 (fun i => s.getD i 0) = (List.range 32).map (fun i => s.getD i 0) := rfl
  simp only [h3, List.getElem_map, List.getElem_range]
  rw [List.getD_eq_getElem?_getD, List.getElem?_eq_getElem h1]; rfl
theorem nilBad {K : AV → Prop} (h : K (.d (.it .i64 0))) : LookN Tryz.prog 3 3 K := ⟨.i64, 0, ⟨.i64, Tryz.underlying3⟩, fun w => Tryz.zeroValue3 w, h⟩
def encEv (w : Wr) : List D := [.it .i64 1] ++ encW w ++ [.fs 2 []]
def okW (n : Nat) (w : Wr) : Bool := decide (0 ≤ w.a ∧ w.a < n)
/-- The writes as they wait, of a disk of so many sectors. -/
def wts (n : Nat) (ws : List Wr) : List Wr := (ws.filter (okW n)).map fun w => { w with e := 0 }
def dskOf (m : List (List UInt8)) (ws : List Wr) : Option Dk := if 1 ≤ m.length ∧ m.length ≤ 65 then some ⟨ws.length, m, wts m.length ws, (wts m.length ws).map encEv, 0⟩ else none
def WsOK (ws : List Wr) : Prop := ∀ w ∈ ws, w.s.length = 32
def wtsI (m : List (List UInt8)) (ws : List Wr) (i : Nat) : List Wr := wts m.length (ws.take i)
theorem wtsI_len (m : List (List UInt8)) (ws : List Wr) (i : Nat) : (wtsI m ws i).length ≤ ws.length := by
  unfold wtsI wts
  rw [List.length_map]
  exact Nat.le_trans (List.length_filter_le _ _) (by rw [List.length_take]; omega)
theorem wtsI_step (m : List (List UInt8)) {ws : List Wr} {i : Nat} {x : Wr} (hx : ws[i]? = some x) : wtsI m ws (i + 1) = if 0 ≤ x.a ∧ x.a < m.length then wtsI m ws i ++ [{ x with e := 0 }] else wtsI m ws i := by
  unfold wtsI wts
  rw [take_snoc hx, List.filter_append, List.map_append]
  by_cases h : 0 ≤ x.a ∧ x.a < m.length
  · rw [if_pos h]
    have : okW m.length x = true := decide_eq_true h
    simp [this]
  · rw [if_neg h]
    have : okW m.length x = false := decide_eq_false h
    simp [this]
def dA (m : List (List UInt8)) (ws : List Wr) (i : Nat) : S := ⟨[(0, .d (encM m)), (1, .d (.fs 36 (ws.map encW))), (5, .ptr 7 0), (7, .d (.it .i64 (i : Nat)))],
  [(7, .cells 6 [.d (.ot (.map none)), .d (.it .i64 (i : Nat)), .d (.fs 32 (m.map encS)), .ts 36 ((wtsI m ws i).map encW) 8, .ts 38 ((wtsI m ws i).map encEv) 9, .d (.it .i64 0)]), (8, .tail 64 true), (9, .tail 134 true)], 10⟩
set_option maxHeartbeats 8000000 in
theorem disk_ok (m : List (List UInt8)) (hm : ImOK m) (ws : List Wr) (hw : WsOK ws) (hml : m.length ≤ 1000) (hwl : ws.length ≤ 1000) : FnC Tryz.prog 9 [.d (encM m), .d (.fs 36 (ws.map encW))] (.d (encD (dskOf m ws))) := by
  have hml' : (m.map encS).length = m.length := List.length_map ..
  have hwl' : (ws.map encW).length = ws.length := List.length_map ..
  by_cases h : 1 ≤ m.length ∧ m.length ≤ 65
  · rw [show dskOf m ws = some _ from if_pos h]
    have hne : (m.map encS).isEmpty = false := by
      cases m with
      | nil => simp at h
      | cons => rfl
    refine FnC.introW ti_ok Tryz.func9 rfl Tryz.ntmps9 Tryz.call9 rfl (Nat.le_of_ble_eq_true rfl) rfl ?_
    (repeat' ((conv=>whnf);first|with_reducible refine gA ?_|((with_reducible refine callE_id ?_); refine CallE.inl ?_) | with_reducible refine CallI.inl ti_ok i29 rfl ?_ | with_reducible refine CallI.inl ti_ok i66 rfl ?_ | with_reducible refine CallI.inl ti_ok i67 rfl ?_ | with_reducible refine Spl.no hne ?_|(with_reducible first|refine gB ?_|refine gZ (fun x hx hu=>?_)|refine gY (fun x hx=>?_)|refine gE ?_|refine Both.mk ?_ ?_|refine gS (fun h=>?_) (fun h=>?_)|refine Spl.nt ?_|refine Spl.mk (fun h=>?_) (fun h=>?_))))
    refine loop_ruleW ti_ok (fun i : Nat => i ≤ ws.length) (dA m ws) (fun i => ws.length - i) 0 (Nat.zero_le _)
      ?_ ?_
    · refine Wk.trans (Wk.nlTs 7 3 6 36 64 (by with_unfolding_all exact rfl) (by with_unfolding_all exact rfl)) ?_
      refine Wk.trans (Wk.nlTs 7 4 6 38 134 (by with_unfolding_all exact rfl) (by with_unfolding_all exact rfl)) ?_
      exact Wk.vwL (And.intro (Vw.eq rfl) (And.intro (Vw.eq rfl) (And.intro (Vw.eq rfl) (And.intro (Vw.eq rfl) trivial))))
          (And.intro (VwO.cells _ _ _ (.cons (Vw.eq rfl) rfl (.cons (Vw.eq rfl) rfl (.cons (Vw.ts' rfl) rfl (.cons (Vw.eq rfl) rfl (.cons (Vw.eq rfl) rfl (.cons (Vw.eq rfl) rfl .nil))))))) (And.intro (VwO.same _) (And.intro (VwO.same _) trivial))) rfl
    intro i hi
    rcases Nat.lt_or_ge i ws.length with hil | hil
    · obtain ⟨x, hx⟩ := lt_get hil
      have hxs := hw x (List.mem_of_getElem? hx)
      have hpos : m.length ≠ 0 := by omega
      have hwi : ((wtsI m ws i).map encW).length ≤ 1000 := by
        rw [List.length_map]
        exact Nat.le_trans (wtsI_len m ws i) hwl
      have hwe : ((wtsI m ws i).map encEv).length ≤ 1000 := by
        rw [List.length_map]
        exact Nat.le_trans (wtsI_len m ws i) hwl
      have hwj : (wtsI m ws i).length ≤ 1000 := Nat.le_trans (wtsI_len m ws i) hwl
      have hstep := wtsI_step m hx
      obtain ⟨xa, xs, xk, xi, xe⟩ := x
      obtain ⟨g, rfl⟩ := is32 hxs
      (repeat' ((conv=>whnf);first|with_reducible refine gA ?_|with_reducible refine at_hm hx ?_ | with_reducible refine nilBad ?_ | with_reducible refine AtA.mk' ?_ | ((with_reducible refine callE_id ?_); refine CallE.inl ?_) | ((with_reducible refine callI_id ?_); first | with_reducible refine CallI.inl ti_ok i30 rfl ?_ | with_reducible refine CallI.inl ti_ok i68 rfl ?_ | with_reducible refine CallI.inl ti_ok i70 rfl ?_ | with_reducible refine CallI.inl ti_ok i69 rfl ?_ | with_reducible refine CallI.inl ti_ok i71 rfl ?_) | ((with_reducible refine drawS_id ?_); first | refine draw_newB ti_ok mixed (by decide +kernel) ?_ | refine draw_hoist ti_ok mixed 0 (by decide +kernel) ?_)|(with_reducible first|refine gB ?_|refine gZ (fun x hx hu=>?_)|refine gY (fun x hx=>?_)|refine gE ?_|refine Both.mk ?_ ?_|refine gS (fun h=>?_) (fun h=>?_)|refine Spl.nt ?_|refine Spl.mk (fun h=>?_) (fun h=>?_))))
      all_goals refine ⟨i + 1, by omega, by dsimp only; omega, Wk.vwL (And.intro (Vw.eq rfl) (And.intro (Vw.eq rfl) (And.intro (Vw.eq rfl) (And.intro (Vw.eq (it_eq (by omega))) trivial)))) (And.intro (VwO.cells _ _ _ (.cons (Vw.eq rfl) rfl (.cons (Vw.eq (it_eq (by omega))) rfl (.cons (Vw.eq rfl) rfl (.cons (Vw.eq (ts_eq ?_)) rfl (.cons (Vw.eq (ts_eq ?_)) rfl (.cons (Vw.eq rfl) rfl .nil))))))) (And.intro (VwO.same _) (And.intro (VwO.same _) trivial))) rfl⟩
      all_goals first
        | (rw [hstep, if_pos (by dsimp only at *; omega), List.map_append]; rfl)
        | (rw [hstep, if_neg (by dsimp only at *; omega)])
    · have hli : i = ws.length := by omega
      have hlast : wtsI m ws i = wts m.length ws := by unfold wtsI; rw [hli, List.take_length]
      (repeat' ((conv=>whnf);first|with_reducible refine gA ?_|(with_reducible first|refine gB ?_|refine gZ (fun x hx hu=>?_)|refine gY (fun x hx=>?_)|refine gE ?_|refine Both.mk ?_ ?_|refine gS (fun h=>?_) (fun h=>?_)|refine Spl.nt ?_|refine Spl.mk (fun h=>?_) (fun h=>?_))))
      refine ⟨⟨[(4, .ptr 7 0)], [(7, .cells 6 ((encDk ⟨ws.length, m, wts m.length ws, (wts m.length ws).map encEv, 0⟩).map AV.d))], 10⟩, Wk.vwL (And.intro (Vw.eq rfl) trivial) (And.intro (VwO.cells _ _ _ (.cons (Vw.eq rfl) rfl (.cons (Vw.eq (it_eq (by dsimp only; omega))) rfl (.cons (Vw.eq rfl) rfl (.cons (Vw.ts' (by rw [hlast])) rfl (.cons (Vw.ts' (by rw [hlast])) rfl (.cons (Vw.eq rfl) rfl .nil))))))) trivial) rfl, ?_⟩
      exact ⟨_, ⟨by decide, rfl⟩, rfl⟩
  · rw [show dskOf m ws = none from if_neg h]
    refine FnC.intro ti_ok Tryz.func9 rfl Tryz.ntmps9 Tryz.call9 rfl (Nat.le_of_ble_eq_true rfl) rfl ?_
    (repeat' ((conv=>whnf);first|with_reducible refine gA ?_|((with_reducible refine callE_id ?_); refine CallE.inl ?_) | with_reducible refine CallI.inl ti_ok i29 rfl ?_ | with_reducible refine CallI.inl ti_ok i66 rfl ?_|(with_reducible first|refine gB ?_|refine gZ (fun x hx hu=>?_)|refine gY (fun x hx=>?_)|refine gE ?_|refine Both.mk ?_ ?_|refine gS (fun h=>?_) (fun h=>?_)|refine Spl.nt ?_|refine Spl.mk (fun h=>?_) (fun h=>?_))))
    all_goals first | (exfalso; omega) | skip
    all_goals refine loop_rule ti_ok (fun i : Nat => i ≤ ws.length) (fun i : Nat => ⟨[(0, .d (encM m)), (1, .d (.fs 36 (ws.map encW))), (5, .d (.ot (.pointer none))), (7, .d (.it .i64 (i : Nat)))], [], 2⟩) (fun i => ws.length - i) 0 (Nat.zero_le _) ⟨And.intro rfl (And.intro rfl (And.intro rfl (And.intro rfl trivial))), trivial, rfl⟩ ?_
    all_goals (
      intro i hi
      rcases Nat.lt_or_ge i ws.length with hil | hil
      · obtain ⟨x, hx⟩ := lt_get hil
        have hxs := hw x (List.mem_of_getElem? hx)
        (repeat' ((conv=>whnf);first|with_reducible refine gA ?_|with_reducible refine at_hm hx ?_ | ((with_reducible refine callE_id ?_); refine CallE.inl ?_) | ((with_reducible refine callI_id ?_); first | with_reducible refine CallI.inl ti_ok i30 rfl ?_ | with_reducible refine CallI.inl ti_ok i68 rfl ?_)|(with_reducible first|refine gB ?_|refine gZ (fun x hx hu=>?_)|refine gY (fun x hx=>?_)|refine gE ?_|refine Both.mk ?_ ?_|refine gS (fun h=>?_) (fun h=>?_)|refine Spl.nt ?_|refine Spl.mk (fun h=>?_) (fun h=>?_))))
        refine again (i + 1) (by omega) (by dsimp only; omega) (And.intro rfl (And.intro rfl (And.intro rfl (And.intro (it_eq (by omega)) trivial)))) trivial rfl
      · (repeat' ((conv=>whnf);first|with_reducible refine gA ?_|(with_reducible first|refine gB ?_|refine gZ (fun x hx hu=>?_)|refine gY (fun x hx=>?_)|refine gE ?_|refine Both.mk ?_ ?_|refine gS (fun h=>?_) (fun h=>?_)|refine Spl.nt ?_|refine Spl.mk (fun h=>?_) (fun h=>?_))))
        rfl)
end Go.Proofs.YtijdbjjkfkjihaaGreatDoor

/- Is it mounted? An image with writes over it. Conditions: none. -/
namespace Go.Proofs.YtijdbjjkfkjihaaGreatDoor
open Go.Sy
set_option maxRecDepth 100000
set_option linter.all false
/-- All sectors of a disk, as they are read. -/
def imgD (d : Option Dk) : List (List UInt8) := match d with
  | none => []
  | some dk => (List.range dk.safe.length).map fun k : Nat => rdS d (k : Nat)
end Go.Proofs.YtijdbjjkfkjihaaGreatDoor

/- The entry of a name in a folder; the inode at a path. Conditions: none. -/
namespace Go.Proofs.YtijdbjjkfkjihaaGreatDoor
open Go.Sy
set_option maxRecDepth 100000
set_option linter.all false
/-- Does a name stand by entry k? -/
def stdP (f : Int → List UInt8) (p : Int) (k : Nat) : Prop := (entAt f k).u = true ∧ (entAt f k).p = p ∧ (inoAt f (entAt f k).t).k ≠ 0
instance (f : Int → List UInt8) (p : Int) (k : Nat) : Decidable (stdP f p k) := by unfold stdP; infer_instance
def fndP (f : Int → List UInt8) (p : Int) (s : List UInt8) (k : Nat) : Prop := stdP f p k ∧ (entAt f k).n = s
instance (f : Int → List UInt8) (p : Int) (s : List UInt8) (k : Nat) : Decidable (fndP f p s k) := by unfold fndP; infer_instance
def fndK (f : Int → List UInt8) (p : Int) (s : List UInt8) : Option Nat := (List.range 24).find? fun k => decide (fndP f p s k)
def fndV (o : Option Nat) : AV := match o with
  | some k => .tup [.d (.it .i64 (k : Nat)), .d (.bl true)]
  | none => .tup [.d (.it .i64 0), .d (.bl false)]
theorem fndK_some {f : Int → List UInt8} {p : Int} {s : List UInt8} {k : Nat} (hk : k < 24) (h : fndP f p s k) (hn : ∀ j : Nat, j < k → ¬ fndP f p s j) : fndK f p s = some k := by
  unfold fndK
  refine List.find?_eq_some_iff_getElem.2 ⟨decide_eq_true h, k, by simpa using hk, by simp, fun j hj => ?_⟩
  simp only [List.getElem_range]
  simpa using hn j hj
theorem fndK_none {f : Int → List UInt8} {p : Int} {s : List UInt8} (hn : ∀ j : Nat, j < 24 → ¬ fndP f p s j) : fndK f p s = none := by
  unfold fndK
  rw [List.find?_eq_none]
  intro j hj
  simpa using hn j (List.mem_range.1 hj)
def fdA (F1 F2 : Func) (d : Option Dk) (p : Int) (s : List UInt8) (k : Nat) : S := ⟨[(0, .yld 12), (1, .ptr 10 0), (5, .d (.it .i64 (k : Nat)))],
  [(12, rgL 11 F1), (11, .frame 30 [(1, .ptr 4 0), (2, .ptr 5 0), (3, .ptr 8 0)]), (10, .cells 1 [.d (encD d)]), (8, .cells 1 [.yld 7]), (7, rgL 6 F2), (6, .frame 21 [(5, .ptr 0 0), (6, .ptr 1 0), (7, .ptr 2 0)]),
   (5, .cells 1 [.d (.it .i64 p)]), (4, .cells 1 [.d (encD d)]), (2, .cells 1 [.d (.bl false)]), (1, .cells 1 [.d (.it .i64 0)]), (0, .cells 1 [.d (.st s)])], 13⟩
set_option maxHeartbeats 8000000 in
theorem find_ok (d : Option Dk) (hd : DkOK d) (p : Int) (s : List UInt8) : FnC Tryz.prog 62 [.d (encD d), .d (.it .i64 p), .d (.st s)] (fndV (fndK (rdS d) p s)) := by
  have he := fun k => entry_ok d hd k
  generalize hR : fndV (fndK (rdS d) p s) = R
  have hRP : R.isP = true := by rw [← hR]; unfold fndV; split <;> rfl
  refine FnC.intro ti_ok Tryz.func62 rfl Tryz.ntmps62 Tryz.call62 rfl (Nat.le_of_ble_eq_true rfl) hRP ?_
  (repeat' ((conv=>whnf);first|with_reducible refine gA ?_|((with_reducible refine callE_id ?_); refine CallE.inl ?_) | with_reducible refine CallI.inl ti_ok i97 rfl ?_|(with_reducible first|refine gB ?_|refine gZ (fun x hx hu=>?_)|refine gY (fun x hx=>?_)|refine gE ?_|refine Both.mk ?_ ?_|refine gS (fun h=>?_) (fun h=>?_)|refine Spl.nt ?_|refine Spl.mk (fun h=>?_) (fun h=>?_))))
  refine RangeS.intro ti_ok i119 rfl rfl ?_
  (repeat' ((conv=>whnf);first|with_reducible refine gA ?_|((with_reducible refine callE_id ?_); refine CallE.inl ?_) | with_reducible refine CallI.inl ti_ok i120 rfl ?_|(with_reducible first|refine gB ?_|refine gZ (fun x hx hu=>?_)|refine gY (fun x hx=>?_)|refine gE ?_|refine Both.mk ?_ ?_|refine gS (fun h=>?_) (fun h=>?_)|refine Spl.nt ?_|refine Spl.mk (fun h=>?_) (fun h=>?_))))
  refine RangeS.intro ti_ok i155 rfl rfl ?_
  (repeat' ((conv=>whnf);first|with_reducible refine gA ?_|(with_reducible first|refine gB ?_|refine gZ (fun x hx hu=>?_)|refine gY (fun x hx=>?_)|refine gE ?_|refine Both.mk ?_ ?_|refine gS (fun h=>?_) (fun h=>?_)|refine Spl.nt ?_|refine Spl.mk (fun h=>?_) (fun h=>?_))))
  conv => whnf
  refine LoopS.wk (τ := fdA Tryz.f119 Tryz.f62 d p s 0) (Wk.enF (And.intro rfl (And.intro rfl (And.intro rfl trivial))) (by (repeat (first | exact trivial | refine And.intro (obw_eq rfl (by with_unfolding_all exact rfl)) ?_ | refine And.intro (obw_fr (by with_unfolding_all exact rfl) (by (repeat (first | exact trivial | refine And.intro (by with_unfolding_all exact rfl) ?_)))) ?_))) rfl) ?_
  refine loop_ruleW ti_ok (fun k : Nat => k ≤ 24 ∧ ∀ j : Nat, j < k → ¬ fndP (rdS d) p s j) (fdA Tryz.f119 Tryz.f62 d p s) (fun k => 24 - k) 0 ⟨Nat.zero_le _, fun j hj => by omega⟩ (Wk.en ⟨And.intro rfl (And.intro rfl (And.intro rfl trivial)), (by (repeat (first | exact trivial | refine And.intro rfl ?_))), rfl⟩) ?_
  intro k hk0
  have k1 := hk0.1
  have k2 := hk0.2
  by_cases hk : k < 24
  · have hek := he (k : Nat)
    have next : ¬ fndP (rdS d) p s k → ∀ j : Nat, j < k + 1 → ¬ fndP (rdS d) p s j := fun hn j hj => by
      rcases Nat.lt_or_ge j k with hjk | hjk
      · exact k2 j hjk
      · obtain rfl : j = k := by omega
        exact hn
    by_cases hu : (entAt (rdS d) k).u = false
    · have hek' : encE (entAt (rdS d) k) = [.bl false, .it .i64 (entAt (rdS d) k).p, .st (entAt (rdS d) k).n, .it .i64 (entAt (rdS d) k).t] := by rw [encE, hu]
      rw [hek'] at hek
      (repeat' ((conv=>whnf);first|with_reducible refine gA ?_|((with_reducible refine callE_id ?_); (refine CallE.con ⟨_, hek, ?_⟩))|(with_reducible first|refine gB ?_|refine gZ (fun x hx hu=>?_)|refine gY (fun x hx=>?_)|refine gE ?_|refine Both.mk ?_ ?_|refine gS (fun h=>?_) (fun h=>?_)|refine Spl.nt ?_|refine Spl.mk (fun h=>?_) (fun h=>?_))))
      refine ⟨k + 1, ⟨by omega, next (fun q => by rw [q.1.1] at hu; cases hu)⟩, by dsimp only; omega, Wk.enF (And.intro rfl (And.intro rfl (And.intro (it_eq (by omega)) trivial))) (by (repeat (first | exact trivial | refine And.intro (obw_eq rfl (by with_unfolding_all exact rfl)) ?_ | refine And.intro (obw_fr (by with_unfolding_all exact rfl) (by (repeat (first | exact trivial | refine And.intro (by with_unfolding_all exact rfl) ?_)))) ?_))) rfl⟩
    · have hu' : (entAt (rdS d) k).u = true := by simpa using hu
      have hek' : encE (entAt (rdS d) k) = [.bl true, .it .i64 (entAt (rdS d) k).p, .st (entAt (rdS d) k).n, .it .i64 (entAt (rdS d) k).t] := by rw [encE, hu']
      rw [hek'] at hek
      have hin := inode_ok d hd (entAt (rdS d) k).t
      (repeat' ((conv=>whnf);first|with_reducible refine gA ?_|((with_reducible refine callE_id ?_); first | (refine CallE.con ⟨_, hek, ?_⟩) | (refine CallE.con ⟨_, hin, ?_⟩)) | with_reducible refine YieldI.intro ti_ok (by with_unfolding_all exact rfl) (by with_unfolding_all exact rfl) (by with_unfolding_all exact rfl) ?_|(with_reducible first|refine gB ?_|refine gZ (fun x hx hu=>?_)|refine gY (fun x hx=>?_)|refine gE ?_|refine Both.mk ?_ ?_|refine gS (fun h=>?_) (fun h=>?_)|refine Spl.nt ?_|refine Spl.mk (fun h=>?_) (fun h=>?_))))
      · have hv : fndV (fndK (rdS d) p s) = fndV (some k) := by rw [fndK_some hk ⟨⟨hu', by assumption, by assumption⟩, by assumption⟩ k2]
        exact hv.symm.trans hR
      · refine ⟨k + 1, ⟨by omega, next (fun q => (by assumption : ¬ _) q.2)⟩, by dsimp only; omega, Wk.enF (And.intro rfl (And.intro rfl (And.intro (it_eq (by omega)) trivial))) (by (repeat (first | exact trivial | refine And.intro (obw_eq rfl (by with_unfolding_all exact rfl)) ?_ | refine And.intro (obw_fr (by with_unfolding_all exact rfl) (by (repeat (first | exact trivial | refine And.intro (by with_unfolding_all exact rfl) ?_)))) ?_))) rfl⟩
      · refine ⟨k + 1, ⟨by omega, next (fun q => q.1.2.2 (by assumption))⟩, by dsimp only; omega, Wk.enF (And.intro rfl (And.intro rfl (And.intro (it_eq (by omega)) trivial))) (by (repeat (first | exact trivial | refine And.intro (obw_eq rfl (by with_unfolding_all exact rfl)) ?_ | refine And.intro (obw_fr (by with_unfolding_all exact rfl) (by (repeat (first | exact trivial | refine And.intro (by with_unfolding_all exact rfl) ?_)))) ?_))) rfl⟩
      · refine ⟨k + 1, ⟨by omega, next (fun q => (by assumption : ¬ _) q.1.2.1)⟩, by dsimp only; omega, Wk.enF (And.intro rfl (And.intro rfl (And.intro (it_eq (by omega)) trivial))) (by (repeat (first | exact trivial | refine And.intro (obw_eq rfl (by with_unfolding_all exact rfl)) ?_ | refine And.intro (obw_fr (by with_unfolding_all exact rfl) (by (repeat (first | exact trivial | refine And.intro (by with_unfolding_all exact rfl) ?_)))) ?_))) rfl⟩
  · (repeat' ((conv=>whnf);first|with_reducible refine gA ?_|(with_reducible first|refine gB ?_|refine gZ (fun x hx hu=>?_)|refine gY (fun x hx=>?_)|refine gE ?_|refine Both.mk ?_ ?_|refine gS (fun h=>?_) (fun h=>?_)|refine Spl.nt ?_|refine Spl.mk (fun h=>?_) (fun h=>?_))))
    have hv : fndV (fndK (rdS d) p s) = fndV none := by rw [fndK_none fun j hj => k2 j (by omega)]
    exact hv.symm.trans hR
end Go.Proofs.YtijdbjjkfkjihaaGreatDoor

/- All names in a folder. Conditions: none. -/
namespace Go.Proofs.YtijdbjjkfkjihaaGreatDoor
open Go.Sy
set_option maxRecDepth 100000
set_option linter.all false
def sortS (l : List (List UInt8)) : List (List UInt8) := l.mergeSort fun x y => decide (x ≤ y)
def vS (l : List (List UInt8)) : List (List D) := l.map fun z => [.st z]
theorem sortS_len (l : List (List UInt8)) : (sortS l).length = l.length := List.length_mergeSort _
theorem sortS_ok (t : Nat) (fl : Bool) (zs : List (List UInt8)) (n : Nat) (hn : zs.length = n) (h0 : 0 < n) (hsz : n < 4611686018427387904) : FnM Tryz.prog 98 true [.vx 1 0 0 n] (.vec t 1 (vS zs) fl) (.vec t 1 (vS (sortS zs)) fl) (.tup []) := by
  subst hn
  exact FnM.ofRow (fun l : List UInt8 => Value.string ⟨l.toArray⟩) (fun z => .st z) (fun F x => .st _) (fun F x v h => by cases h; rfl) (m := none) (List.length_mergeSort _) h0 (fun q h => by cases h) Tryz.call98 (fun blk off cap w hH hb hc => (Tryz.slices_Sort_string blk off cap zs w hH hb hsz).mono fun e w' h => h)
theorem compactS_ok (t : Nat) (fl : Bool) (n : Nat) (zs : List (List UInt8)) (hn : zs.length = n) (h0 : 0 < n) (hsz : n < 4611686018427387904) : FnM Tryz.prog 99 true [.vx 1 0 0 n] (.vec t 1 (vS zs) fl) (.vec t 1 (vS (Lib.compact zs ++ List.replicate (zs.length - (Lib.compact zs).length) [])) fl) (.vx 1 0 0 (Lib.compact zs).length) := by
  subst hn
  exact FnM.ofRow (fun l : List UInt8 => Value.string ⟨l.toArray⟩) (fun z => .st z) (fun F x => .st _) (fun F x v h => by cases h; rfl) (m := some (Lib.compact zs).length) (by have := Lib.compact_length_le zs; simp; omega) h0 (fun q h => by cases h; exact Lib.compact_length_le zs) Tryz.call99 (fun blk off cap w hH hb hc => (Tryz.slices_Compact_string blk off cap zs w hH (by omega) hc).mono fun e w' ⟨h1, q, h2⟩ => ⟨h1, q, #[], by rw [Go.Sort.grow_empty]; exact h2⟩)
/-- The names that stand in a folder by the first k entries. -/
def nmsK (f : Int → List UInt8) (p : Int) (k : Nat) : List (List UInt8) := ((List.range k).filter fun j => decide (stdP f p j)).map fun j : Nat => (entAt f (j : Nat)).n
def nms (f : Int → List UInt8) (p : Int) : List (List UInt8) := Lib.compact (sortS (nmsK f p 24))
theorem nmsK_len (f : Int → List UInt8) (p : Int) (k : Nat) : (nmsK f p k).length ≤ k := by
  unfold nmsK
  rw [List.length_map]
  exact Nat.le_trans (List.length_filter_le _ _) (by rw [List.length_range]; exact Nat.le_refl _)
theorem nmsK_yes {f : Int → List UInt8} {p : Int} {k : Nat} (h : stdP f p k) : nmsK f p (k + 1) = nmsK f p k ++ [(entAt f (k : Nat)).n] := by
  unfold nmsK
  rw [List.range_succ, List.filter_append, List.map_append]
  simp [h]
theorem nmsK_no {f : Int → List UInt8} {p : Int} {k : Nat} (h : ¬ stdP f p k) : nmsK f p (k + 1) = nmsK f p k := by
  unfold nmsK
  rw [List.range_succ, List.filter_append, List.map_append]
  simp [h]
def lsA (F1 F2 : Func) (d : Option Dk) (p : Int) (k : Nat) (L : List (List UInt8)) : S := ⟨[(0, .yld 11), (1, .ptr 9 0), (5, .d (.it .i64 (k : Nat)))],
  [(11, rgL 10 F1), (10, .frame 30 [(1, .ptr 3 0), (2, .ptr 4 0), (3, .ptr 7 0)]), (9, .cells 1 [.d (encD d)]), (7, .cells 1 [.yld 6]), (6, rgL 5 F2), (5, .frame 23 [(5, .ptr 1 0)]),
   (4, .cells 1 [.d (.it .i64 p)]), (3, .cells 1 [.d (encD d)]), (1, .cells 1 [.vx 1 12 0 L.length]), (12, .vec 9 1 (vS L) false)], 13⟩
theorem wk_tr {N : Nat} {σ τ τ' : S} (e : τ' = τ) (h : Wk N σ τ') : Wk N σ τ := by rw [← e]; exact h
theorem letE_id {e : List (List D)} {K : List (List D) → Prop} (h : LetE e K) : LetE e K := h
theorem letN_id {e : Nat} {K : Nat → Prop} (h : LetN e K) : LetN e K := h
theorem vS_app {L : List (List UInt8)} {x : List UInt8} {n : Nat} (h : n = L.length) : (vS L).take n ++ [[.st x]] = vS (L ++ [x]) := by
  subst h
  unfold vS
  rw [List.take_of_length_le (by rw [List.length_map]; exact Nat.le_refl _), List.map_append]; rfl
set_option maxHeartbeats 8000000 in
theorem list_ok (d : Option Dk) (hd : DkOK d) (p : Int) : FnC Tryz.prog 61 [.d (encD d), .d (.it .i64 p)] (.d (.fs 1 (vS (nms (rdS d) p)))) := by
  have he := fun k => entry_ok d hd k
  refine FnC.intro ti_ok Tryz.func61 rfl Tryz.ntmps61 Tryz.call61 rfl (Nat.le_of_ble_eq_true rfl) rfl ?_
  (repeat' ((conv=>whnf);first|with_reducible refine gA ?_|((with_reducible refine callE_id ?_); refine CallE.inl ?_) | with_reducible refine CallI.inl ti_ok i97 rfl ?_|(with_reducible first|refine gB ?_|refine gZ (fun x hx hu=>?_)|refine gY (fun x hx=>?_)|refine gE ?_|refine Both.mk ?_ ?_|refine gS (fun h=>?_) (fun h=>?_)|refine Spl.nt ?_|refine Spl.mk (fun h=>?_) (fun h=>?_))))
  refine RangeS.intro ti_ok i119 rfl rfl ?_
  (repeat' ((conv=>whnf);first|with_reducible refine gA ?_|((with_reducible refine callE_id ?_); refine CallE.inl ?_) | with_reducible refine CallI.inl ti_ok i120 rfl ?_|(with_reducible first|refine gB ?_|refine gZ (fun x hx hu=>?_)|refine gY (fun x hx=>?_)|refine gE ?_|refine Both.mk ?_ ?_|refine gS (fun h=>?_) (fun h=>?_)|refine Spl.nt ?_|refine Spl.mk (fun h=>?_) (fun h=>?_))))
  refine RangeS.intro ti_ok i155 rfl rfl ?_
  (repeat' ((conv=>whnf);first|with_reducible refine gA ?_|(with_reducible first|refine gB ?_|refine gZ (fun x hx hu=>?_)|refine gY (fun x hx=>?_)|refine gE ?_|refine Both.mk ?_ ?_|refine gS (fun h=>?_) (fun h=>?_)|refine Spl.nt ?_|refine Spl.mk (fun h=>?_) (fun h=>?_))))
  conv => whnf
  refine LoopS.wk (Wk.nlVx 1 0 1 1 9 (by with_unfolding_all exact rfl) (by with_unfolding_all exact rfl)) ?_
  refine LoopS.wk (τ := lsA Tryz.f119 Tryz.f61 d p 0 []) (Wk.enF (And.intro rfl (And.intro rfl (And.intro rfl trivial))) (by (repeat (first | exact trivial | refine And.intro (obw_eq rfl (by with_unfolding_all exact rfl)) ?_ | refine And.intro (obw_fr (by with_unfolding_all exact rfl) (by (repeat (first | exact trivial | refine And.intro (by with_unfolding_all exact rfl) ?_)))) ?_))) rfl) ?_
  refine loop_ruleW ti_ok (fun k : Nat => k ≤ 24) (fun k : Nat => lsA Tryz.f119 Tryz.f61 d p k (nmsK (rdS d) p k)) (fun k => 24 - k) 0 (Nat.zero_le _) (Wk.en ⟨And.intro rfl (And.intro rfl (And.intro rfl trivial)), (by (repeat (first | exact trivial | refine And.intro rfl ?_))), rfl⟩) ?_
  intro k k1
  by_cases hk : k < 24
  · have hek := he (k : Nat)
    have hln := nmsK_len (rdS d) p k
    have hlv : (vS (nmsK (rdS d) p k)).length = (nmsK (rdS d) p k).length := List.length_map ..
    by_cases hu : (entAt (rdS d) k).u = false
    · have hek' : encE (entAt (rdS d) k) = [.bl false, .it .i64 (entAt (rdS d) k).p, .st (entAt (rdS d) k).n, .it .i64 (entAt (rdS d) k).t] := by rw [encE, hu]
      rw [hek'] at hek
      have hno : nmsK (rdS d) p (k + 1) = nmsK (rdS d) p k := nmsK_no (fun q => by rw [q.1] at hu; cases hu)
      (repeat' ((conv=>whnf);first|with_reducible refine gA ?_|((with_reducible refine callE_id ?_); (refine CallE.con ⟨_, hek, ?_⟩))|(with_reducible first|refine gB ?_|refine gZ (fun x hx hu=>?_)|refine gY (fun x hx=>?_)|refine gE ?_|refine Both.mk ?_ ?_|refine gS (fun h=>?_) (fun h=>?_)|refine Spl.nt ?_|refine Spl.mk (fun h=>?_) (fun h=>?_))))
      refine ⟨k + 1, by omega, by dsimp only; omega, wk_tr (congrArg (lsA Tryz.f119 Tryz.f61 d p (k + 1)) hno.symm) (Wk.enF (And.intro rfl (And.intro rfl (And.intro (it_eq (by omega)) trivial))) (by (repeat (first | exact trivial | refine And.intro (obw_eq rfl (by with_unfolding_all exact rfl)) ?_ | refine And.intro (obw_fr (by with_unfolding_all exact rfl) (by (repeat (first | exact trivial | refine And.intro (by with_unfolding_all exact rfl) ?_)))) ?_))) rfl)⟩
    · have hu' : (entAt (rdS d) k).u = true := by simpa using hu
      have hek' : encE (entAt (rdS d) k) = [.bl true, .it .i64 (entAt (rdS d) k).p, .st (entAt (rdS d) k).n, .it .i64 (entAt (rdS d) k).t] := by rw [encE, hu']
      rw [hek'] at hek
      have hin := inode_ok d hd (entAt (rdS d) k).t
      (repeat' ((conv=>whnf);first|with_reducible refine gA ?_|((with_reducible refine callE_id ?_); first | (refine CallE.con ⟨_, hek, ?_⟩) | (refine CallE.con ⟨_, hin, ?_⟩)) | with_reducible refine YieldI.intro ti_ok (by with_unfolding_all exact rfl) (by with_unfolding_all exact rfl) (by with_unfolding_all exact rfl) ?_ | ((with_reducible refine letE_id ?_); refine LetE.mk (vS (nmsK (rdS d) p k ++ [(entAt (rdS d) k).n])) (vS_app rfl).symm ?_) | ((with_reducible refine letN_id ?_); refine LetN.eq (nmsK (rdS d) p k ++ [(entAt (rdS d) k).n]).length (by rw [List.length_append]; rfl) ?_)|(with_reducible first|refine gB ?_|refine gZ (fun x hx hu=>?_)|refine gY (fun x hx=>?_)|refine gE ?_|refine Both.mk ?_ ?_|refine gS (fun h=>?_) (fun h=>?_)|refine Spl.nt ?_|refine Spl.mk (fun h=>?_) (fun h=>?_))))
      · have hyes := nmsK_yes (f := rdS d) (p := p) (k := k) ⟨hu', by assumption, by assumption⟩
        refine ⟨k + 1, by omega, by dsimp only; omega, wk_tr (congrArg (lsA Tryz.f119 Tryz.f61 d p (k + 1)) hyes.symm) (Wk.enF (And.intro rfl (And.intro rfl (And.intro (it_eq (by omega)) trivial))) (by (repeat (first | exact trivial | refine And.intro (obw_eq rfl (by with_unfolding_all exact rfl)) ?_ | refine And.intro (obw_fr (by with_unfolding_all exact rfl) (by (repeat (first | exact trivial | refine And.intro (by with_unfolding_all exact rfl) ?_)))) ?_))) rfl)⟩
      · have hno : nmsK (rdS d) p (k + 1) = nmsK (rdS d) p k := nmsK_no (fun q => q.2.2 (by assumption))
        refine ⟨k + 1, by omega, by dsimp only; omega, wk_tr (congrArg (lsA Tryz.f119 Tryz.f61 d p (k + 1)) hno.symm) (Wk.enF (And.intro rfl (And.intro rfl (And.intro (it_eq (by omega)) trivial))) (by (repeat (first | exact trivial | refine And.intro (obw_eq rfl (by with_unfolding_all exact rfl)) ?_ | refine And.intro (obw_fr (by with_unfolding_all exact rfl) (by (repeat (first | exact trivial | refine And.intro (by with_unfolding_all exact rfl) ?_)))) ?_))) rfl)⟩
      · have hno : nmsK (rdS d) p (k + 1) = nmsK (rdS d) p k := nmsK_no (fun q => (by assumption : ¬ _) q.2.1)
        refine ⟨k + 1, by omega, by dsimp only; omega, wk_tr (congrArg (lsA Tryz.f119 Tryz.f61 d p (k + 1)) hno.symm) (Wk.enF (And.intro rfl (And.intro rfl (And.intro (it_eq (by omega)) trivial))) (by (repeat (first | exact trivial | refine And.intro (obw_eq rfl (by with_unfolding_all exact rfl)) ?_ | refine And.intro (obw_fr (by with_unfolding_all exact rfl) (by (repeat (first | exact trivial | refine And.intro (by with_unfolding_all exact rfl) ?_)))) ?_))) rfl)⟩
  · have hk24 : k = 24 := by omega
    have hln := nmsK_len (rdS d) p k
    have hR : nms (rdS d) p = Lib.compact (sortS (nmsK (rdS d) p k)) := by unfold nms; rw [hk24]
    by_cases hL : (nmsK (rdS d) p k).length = 0
    · have hnil : nmsK (rdS d) p k = [] := List.length_eq_zero_iff.1 hL
      have hR0 : nms (rdS d) p = [] := by
        rw [hR, hnil]
        exact List.length_eq_zero_iff.1 (Nat.le_zero.1 (by have := Lib.compact_length_le (sortS ([] : List (List UInt8))); rw [sortS_len] at this; exact this))
      (repeat' ((conv=>whnf);first|with_reducible refine gA ?_|((with_reducible refine callE_id ?_); refine CallE.inl ?_) | ((with_reducible refine callI_id ?_); first | refine CallI.none0 Tryz.call98 Tryz.slices_Sort_string_none (by with_unfolding_all exact rfl) hL ?_ | refine CallI.same0 Tryz.call99 Tryz.slices_Compact_string_empty (by with_unfolding_all exact rfl) hL ?_)|(with_reducible first|refine gB ?_|refine gZ (fun x hx hu=>?_)|refine gY (fun x hx=>?_)|refine gE ?_|refine Both.mk ?_ ?_|refine gS (fun h=>?_) (fun h=>?_)|refine Spl.nt ?_|refine Spl.mk (fun h=>?_) (fun h=>?_))))
      refine fs_eq ?_
      rw [hR0, hnil]; rfl
    · have hpos : 0 < (nmsK (rdS d) p k).length := by omega
      have hcl : (Lib.compact (sortS (nmsK (rdS d) p k))).length ≤ (sortS (nmsK (rdS d) p k)).length := Lib.compact_length_le _
      (repeat' ((conv=>whnf);first|with_reducible refine gA ?_|((with_reducible refine callE_id ?_); refine CallE.inl ?_) | ((with_reducible refine callI_id ?_); first | refine CallI.byM (sortS_ok 9 false (nmsK (rdS d) p k) _ rfl hpos (by omega)) (by with_unfolding_all exact rfl) rfl ?_ | refine CallI.byM (compactS_ok 9 false (nmsK (rdS d) p k).length (sortS (nmsK (rdS d) p k)) (sortS_len _) hpos (by omega)) (by with_unfolding_all exact rfl) rfl ?_)|(with_reducible first|refine gB ?_|refine gZ (fun x hx hu=>?_)|refine gY (fun x hx=>?_)|refine gE ?_|refine Both.mk ?_ ?_|refine gS (fun h=>?_) (fun h=>?_)|refine Spl.nt ?_|refine Spl.mk (fun h=>?_) (fun h=>?_))))
      refine And.intro ?_ ?_
      · show 0 + (Lib.compact (sortS (nmsK (rdS d) p k))).length ≤ (vS (Lib.compact (sortS (nmsK (rdS d) p k)) ++ _)).length
        unfold vS
        rw [List.length_map, List.length_append]; omega
      · (repeat' ((conv=>whnf);first|with_reducible refine gA ?_|(with_reducible first|refine gB ?_|refine gZ (fun x hx hu=>?_)|refine gY (fun x hx=>?_)|refine gE ?_|refine Both.mk ?_ ?_|refine gS (fun h=>?_) (fun h=>?_)|refine Spl.nt ?_|refine Spl.mk (fun h=>?_) (fun h=>?_))))
        refine fs_eq ?_
        rw [hR]
        show (List.drop 0 (vS (_ ++ _))).take _ = _
        unfold vS
        rw [List.drop_zero, List.map_append, List.take_left' (List.length_map ..)]
end Go.Proofs.YtijdbjjkfkjihaaGreatDoor

/- What is at a path. Conditions: none. -/
namespace Go.Proofs.YtijdbjjkfkjihaaGreatDoor
open Go.Sy
set_option maxRecDepth 100000
set_option linter.all false
def stepV (f : Int → List UInt8) (n : Int) (s : List UInt8) : Int × Int := if (inoAt f n).k = 2 then (match fndK f n s with | none => (0, 4) | some k => ((entAt f (k : Nat)).t, 0)) else (0, 6)
def lkp (f : Int → List UInt8) : List (List UInt8) → Int → Int × Int
  | [], n => (n, 0)
  | s :: t, n => if (stepV f n s).2 = 0 then lkp f t (stepV f n s).1 else (0, (stepV f n s).2)
def lookP (f : Int → List UInt8) (p : List UInt8) : Int × Int := if (splitP p).2 = 0 then lkp f (splitP p).1 0 else (0, (splitP p).2)
end Go.Proofs.YtijdbjjkfkjihaaGreatDoor

/- A disk and an image with writes over it read alike. Conditions: none. -/
namespace Go.Proofs.YtijdbjjkfkjihaaGreatDoor
open Go.Sy
set_option maxRecDepth 100000
set_option linter.all false
theorem dsk_OK {m : List (List UInt8)} {ws : List Wr} (hm : ImOK m) (hw : WsOK ws) (hwl : ws.length ≤ 1000) : DkOK (dskOf m ws) := by
  unfold dskOf
  split
  · rename_i h
    refine ⟨hm, fun w hw' => ?_, h.2, ?_⟩
    · have hw' : w ∈ (ws.filter (okW m.length)).map fun w => { w with e := 0 } := hw'
      obtain ⟨x, hx, rfl⟩ := List.mem_map.1 hw'
      exact hw x (List.mem_filter.1 hx).1
    · show ((ws.filter (okW m.length)).map _).length ≤ 100000
      rw [List.length_map]
      have := List.length_filter_le (okW m.length) ws
      omega
  · trivial
end Go.Proofs.YtijdbjjkfkjihaaGreatDoor

/- The law. Conditions: none. -/
namespace Go.Proofs.YtijdbjjkfkjihaaGreatDoor
open Go.Sy
set_option maxRecDepth 100000
set_option linter.all false
def folderS : List UInt8 := [2, 0, 0, 0, 0, 0, 0, 0, 0, 0, 0, 0, 0, 0, 0, 0, 0, 0, 0, 0, 0, 0, 0, 0, 0, 0, 0, 0, 0, 0, 0, 0]
def emptyM : List (List UInt8) := superS :: folderS :: List.replicate 63 zeroS
def k1S : List UInt8 := [1, 0, 2, 1, 0, 0, 0, 0, 0, 0, 0, 0, 0, 0, 0, 0, 97, 0, 0, 0, 0, 0, 0, 0, 0, 0, 0, 0, 0, 0, 0, 0]
def k2S : List UInt8 := [1, 0, 0, 0, 0, 0, 0, 0, 0, 0, 0, 0, 0, 0, 0, 0, 0, 0, 0, 0, 0, 0, 0, 0, 0, 0, 0, 0, 0, 0, 0, 0]
def kW : List Wr := [⟨17, k1S, 0, 0, 0⟩, ⟨3, k2S, 0, 0, 0⟩]
theorem em_ok : ImOK emptyM := by
  intro s hs
  simp only [emptyM, List.mem_cons, List.mem_replicate] at hs
  rcases hs with rfl | rfl | ⟨_, rfl⟩ <;> rfl
theorem empty_ok : FnC Tryz.prog 27 [] (.d (encM emptyM)) := by
  have hs := refSuper_ok
  refine FnC.intro ti_ok Tryz.func27 rfl Tryz.ntmps27 Tryz.call27 rfl (Nat.le_of_ble_eq_true rfl) rfl ?_
  (repeat' ((conv=>whnf);first|with_reducible refine gA ?_|((with_reducible refine callE_id ?_); (refine CallE.con ⟨_, hs, ?_⟩))|(with_reducible first|refine gB ?_|refine gZ (fun x hx hu=>?_)|refine gY (fun x hx=>?_)|refine gE ?_|refine Both.mk ?_ ?_|refine gS (fun h=>?_) (fun h=>?_)|refine Spl.nt ?_|refine Spl.mk (fun h=>?_) (fun h=>?_))))
  refine ⟨emptyM.map encS, ⟨?_, ?_, ?_, ?_⟩, ?_⟩
  · exact Nat.le_of_ble_eq_true (by kernel_rfl)
  · kernel_rfl
  · intro x hx
    obtain ⟨s, hs, rfl⟩ := List.mem_map.1 hx
    rw [encS_len]; exact em_ok s hs
  · kernel_rfl
  · rfl
def kD : Option Dk := dskOf emptyM kW
theorem f1 : lookP (rdS kD) [47, 97] = (2, 0) := by decide +kernel
theorem f2 : fndK (rdS kD) 0 [97] = some 0 := by decide +kernel
theorem f3 : lookP (rdS kD) [47, 98] = (0, 4) := by decide +kernel
theorem f4 : mntP (imgD kD) := by decide +kernel
theorem f5 : nmsK (rdS kD) 0 24 = [[97]] := by decide +kernel
theorem f6 : takP (rdS kD) 2 := by decide +kernel
theorem f8 : (entAt (rdS kD) 0).n = [97] := by decide +kernel
end Go.Proofs.YtijdbjjkfkjihaaGreatDoor

/- The law, whole. Conditions: none. -/
namespace Go.Proofs.YtijdbjjkfkjihaaGreatDoor
open Go.Sy
set_option maxRecDepth 100000
set_option linter.all false
end Go.Proofs.YtijdbjjkfkjihaaGreatDoor

/- Texts in quotes, and out of them; nodes as text, and out of it. Conditions: none. -/
namespace Go.Proofs.YtijdbjjkfkjihaaGreatDoor
open Go.Sy
set_option maxRecDepth 100000
set_option linter.all false
/-- The place of a digit. -/
def digI (c : UInt8) : Int := Lib.indexByte hexD c
def pairV (a b : UInt8) : Option UInt8 :=
  if 0 ≤ digI a ∧ 0 ≤ digI b then (if plainB (UInt8.ofNat (16 * (digI a).toNat + (digI b).toNat)) = true then none else some (UInt8.ofNat (16 * (digI a).toNat + (digI b).toNat))) else none
def unqR : List UInt8 → Option (List UInt8)
  | [] => some []
  | c :: r => if c = 92 then (match r with
      | a :: b :: r' => match pairV a b with
        | some v => (unqR r').map (v :: ·)
        | none => none
      | _ => none)
    else if plainB c = true then (unqR r).map (c :: ·) else none
theorem unqR_esc (a b : UInt8) (r : List UInt8) : unqR (92 :: a :: b :: r) = match pairV a b with
    | some v => (unqR r).map (v :: ·)
    | none => none := by rw [unqR]; simp only [if_true]
theorem unqR_c {c : UInt8} (r : List UInt8) (h : c ≠ 92) : unqR (c :: r) = if plainB c = true then (unqR r).map (c :: ·) else none := by
  cases r with
  | nil => simp [unqR, h]
  | cons a r => cases r <;> simp [unqR, h]
theorem unqR_1 : unqR [92] = none := rfl
theorem unqR_2 (a : UInt8) : unqR [92, a] = none := rfl
def unqO (s : List UInt8) : Option (List UInt8) := if s.head? = some 34 ∧ 2 ≤ s.length ∧ s.getLast? = some 34 then unqR (s.drop 1).dropLast else none
theorem dig_lt : ∀ c : UInt8, digI c < 16 ∧ -1 ≤ digI c ∧ (0 ≤ digI c → hexD.getD (digI c).toNat 0 = c) := by
  have h : ∀ n : Fin 256, digI (UInt8.ofNat n) < 16 ∧ -1 ≤ digI (UInt8.ofNat n) ∧ (0 ≤ digI (UInt8.ofNat n) → hexD.getD (digI (UInt8.ofNat n)).toNat 0 = UInt8.ofNat n) := by decide +kernel
  intro c
  have := h ⟨c.toNat, c.toNat_lt⟩
  rwa [UInt8.ofNat_toNat] at this
theorem pair_sign : ∀ c : UInt8, plainB c = false → pairV (hexD.getD (c.toNat / 16) 0) (hexD.getD (c.toNat % 16) 0) = some c := by
  have h : ∀ n : Fin 256, plainB (UInt8.ofNat n) = false → pairV (hexD.getD ((UInt8.ofNat n).toNat / 16) 0) (hexD.getD ((UInt8.ofNat n).toNat % 16) 0) = some (UInt8.ofNat n) := by decide +kernel
  intro c
  have := h ⟨c.toNat, c.toNat_lt⟩
  rwa [UInt8.ofNat_toNat] at this
theorem pairV_some {a b v : UInt8} (h : pairV a b = some v) : signQ v = [92, a, b] := by
  unfold pairV at h
  split at h
  · rename_i hd
    split at h
    · cases h
    · rename_i hp
      obtain rfl := Option.some.inj h
      have ha := dig_lt a
      have hb := dig_lt b
      have hv : (UInt8.ofNat (16 * (digI a).toNat + (digI b).toNat)).toNat = 16 * (digI a).toNat + (digI b).toNat := by
        rw [UInt8.toNat_ofNat']
        omega
      unfold signQ
      rw [if_neg hp, hv, show (16 * (digI a).toNat + (digI b).toNat) / 16 = (digI a).toNat by omega, show (16 * (digI a).toNat + (digI b).toNat) % 16 = (digI b).toNat by omega, ha.2.2 hd.1, hb.2.2 hd.2]
  · cases h
theorem plain_92 {c : UInt8} (h : plainB c = true) : c ≠ 92 := by
  rintro rfl; revert h; decide
theorem unq_sign : ∀ s : List UInt8, unqR (s.flatMap signQ) = some s
  | [] => rfl
  | c :: s => by
    rw [List.flatMap_cons]
    by_cases h : plainB c = true
    · rw [show signQ c = [c] from if_pos h, List.singleton_append, unqR_c _ (plain_92 h), if_pos h, unq_sign s]; rfl
    · rw [show signQ c = [92, hexD.getD (c.toNat / 16) 0, hexD.getD (c.toNat % 16) 0] from if_neg h]
      show unqR (92 :: _ :: _ :: s.flatMap signQ) = _
      rw [unqR_esc, pair_sign c (by simpa using h)]
      dsimp only
      rw [unq_sign s]; rfl
theorem unqR_back : ∀ (r t : List UInt8), unqR r = some t → t.flatMap signQ = r
  | [], t, h => by obtain rfl := Option.some.inj h; rfl
  | c :: r, t, h => by
    by_cases hc : c = 92
    · subst hc
      match r, h with
      | [], h => cases h
      | [a], h => cases h
      | a :: b :: r', h =>
        rw [unqR_esc] at h
        cases hp : pairV a b with
        | none => rw [hp] at h; cases h
        | some v =>
          rw [hp] at h
          dsimp only at h
          cases hu : unqR r' with
          | none => rw [hu] at h; cases h
          | some t' =>
            rw [hu] at h
            obtain rfl := Option.some.inj h
            rw [List.flatMap_cons, pairV_some hp, unqR_back r' t' hu]; rfl
    · rw [unqR_c r hc] at h
      split at h
      · rename_i hp
        cases hu : unqR r with
        | none => rw [hu] at h; cases h
        | some t' =>
          rw [hu] at h
          obtain rfl := Option.some.inj h
          rw [List.flatMap_cons, unqR_back r t' hu]
          unfold signQ
          rw [if_pos hp]; rfl
      · cases h
theorem last_app {α : Type} {l : List α} {x : α} (h : l.getLast? = some x) : l.dropLast ++ [x] = l := by
  have hne : l ≠ [] := by rintro rfl; cases h
  rw [List.getLast?_eq_some_getLast hne] at h
  rw [← Option.some.inj h]
  exact List.dropLast_concat_getLast hne
theorem unq_quote (s : List UInt8) : unqO (quoteS s) = some s := by
  have e : ((quoteS s).drop 1).dropLast = s.flatMap signQ := by
    unfold quoteS
    rw [List.drop_succ_cons, List.drop_zero, List.dropLast_concat]
  unfold unqO
  rw [if_pos, e, unq_sign]
  refine ⟨rfl, by simp [quoteS], ?_⟩
  unfold quoteS
  rw [← List.cons_append, List.getLast?_concat]
theorem quote_unq {s t : List UInt8} (h : unqO s = some t) : quoteS t = s := by
  unfold unqO at h
  split at h
  · rename_i hs
    obtain ⟨h1, h2, h3⟩ := hs
    have := unqR_back _ _ h
    unfold quoteS
    rw [this]
    match s with
    | [] => cases h1
    | c :: r =>
      obtain rfl := Option.some.inj h1
      have hr : r ≠ [] := by rintro rfl; simp at h2
      rw [List.drop_succ_cons, List.drop_zero]
      have h3' : r.getLast? = some 34 := by rwa [List.getLast?_cons_of_ne_nil hr] at h3
      rw [last_app h3']
  · cases h
/-- A text, parted where a byte stands first. -/
def cutC (c : UInt8) : List UInt8 → List UInt8 × Option (List UInt8)
  | [] => ([], none)
  | b :: t => if b = c then ([], some t) else (b :: (cutC c t).1, (cutC c t).2)
theorem cutC_some {c : UInt8} : ∀ {s a b : List UInt8}, cutC c s = (a, some b) → s = a ++ c :: b
  | [], a, b, h => by cases h
  | x :: t, a, b, h => by
    unfold cutC at h
    split at h
    · rename_i hx
      subst hx
      cases h; rfl
    · have h1 : x :: (cutC c t).1 = a := congrArg Prod.fst h
      have h2 : (cutC c t).2 = some b := congrArg Prod.snd h
      have := cutC_some (s := t) (a := (cutC c t).1) (b := b) (by rw [← h2])
      rw [← h1]
      show x :: t = x :: ((cutC c t).1 ++ c :: b)
      rw [← this]
theorem cutC_none {c : UInt8} : ∀ {s a : List UInt8}, cutC c s = (a, none) → s = a
  | [], a, h => by cases h; rfl
  | x :: t, a, h => by
    unfold cutC at h
    split at h
    · cases h
    · have h1 : x :: (cutC c t).1 = a := congrArg Prod.fst h
      have h2 : (cutC c t).2 = none := congrArg Prod.snd h
      rw [← h1, ← cutC_none (s := t) (a := (cutC c t).1) (by rw [← h2])]
theorem cutC_ne {c : UInt8} : ∀ (s : List UInt8), ∀ x ∈ (cutC c s).1, x ≠ c
  | [], x, h => by cases h
  | y :: t, x, h => by
    unfold cutC at h
    split at h
    · cases h
    · rename_i hy
      rcases List.mem_cons.1 h with rfl | h
      · exact hy
      · exact cutC_ne t x h
theorem cutC_idx {c : UInt8} : ∀ (s : List UInt8), (Lib.indexByte s c = -1 ∧ cutC c s = (s, none)) ∨ (0 ≤ Lib.indexByte s c ∧ Lib.indexByte s c < s.length ∧ cutC c s = (s.take (Lib.indexByte s c).toNat, some (s.drop ((Lib.indexByte s c).toNat + 1))))
  | [] => .inl ⟨rfl, rfl⟩
  | b :: t => by
    by_cases hb : b = c
    · subst hb
      have e : Lib.indexByte (b :: t) b = 0 := by simp [Lib.indexByte]
      rw [e]
      exact .inr ⟨by omega, by simp, by simp [cutC]⟩
    · have e : Lib.indexByte (b :: t) c = if Lib.indexByte t c == -1 then -1 else Lib.indexByte t c + 1 := by simp [Lib.indexByte, hb]
      rcases cutC_idx t with ⟨h1, h2⟩ | ⟨h1, h2, h3⟩
      · refine .inl ⟨by rw [e, h1]; rfl, ?_⟩
        rw [cutC, if_neg hb, h2]
      · have hne : (Lib.indexByte t c == -1) = false := by simp; omega
        rw [hne] at e
        simp only [Bool.false_eq_true, if_false] at e
        rw [e]
        refine .inr ⟨by omega, by simp; omega, ?_⟩
        have hn : (Lib.indexByte t c + 1).toNat = (Lib.indexByte t c).toNat + 1 := by omega
        rw [hn, cutC, if_neg hb, h3, List.take_succ_cons, List.drop_succ_cons]
def vline (n : Nod) : List UInt8 := if n.d = true then n.p ++ [47, 10] else n.p ++ 32 :: (quoteS n.x ++ [10])
def showN (l : List Nod) : List UInt8 := l.flatMap vline
/-- The node of a line. -/
def nodeO (line : List UInt8) : Option Nod :=
  match cutC 32 line with
  | (p, some q) => match unqO q with
    | some t => if mayB ⟨p, false, t⟩ = true then some ⟨p, false, t⟩ else none
    | none => none
  | (p, none) => if p.getLast? = some 47 ∧ mayB ⟨p.dropLast, true, []⟩ = true then some ⟨p.dropLast, true, []⟩ else none
def readO : Nat → List UInt8 → Option (List Nod)
  | 0, _ => none
  | n + 1, s => if s = [] then some [] else match cutC 10 s with
    | (line, some rest) => match nodeO line with
      | some x => (readO n rest).map (x :: ·)
      | none => none
    | (_, none) => none
def readN (s : List UInt8) : Option (List Nod) := readO (s.length + 1) s
theorem readO_eq : ∀ (n m : Nat) (s : List UInt8), s.length < n → s.length < m → readO n s = readO m s
  | 0, _, _, h, _ => by omega
  | _, 0, _, _, h => by omega
  | n + 1, m + 1, s, h1, h2 => by
    unfold readO
    by_cases hs : s = []
    · rw [if_pos hs, if_pos hs]
    · rw [if_neg hs, if_neg hs]
      rcases hc : cutC 10 s with ⟨line, rest⟩
      cases rest with
      | none => rfl
      | some rest =>
        dsimp only
        have := congrArg List.length (cutC_some hc)
        rw [List.length_append, List.length_cons] at this
        rw [readO_eq n m rest (by omega) (by omega)]
theorem readN_nil : readN [] = some [] := rfl
theorem readN_none {s line : List UInt8} (hs : s ≠ []) (hc : cutC 10 s = (line, none)) : readN s = none := by
  unfold readN readO
  rw [if_neg hs, hc]
theorem readN_some {s line rest : List UInt8} (hc : cutC 10 s = (line, some rest)) : readN s = match nodeO line with
    | some x => (readN rest).map (x :: ·)
    | none => none := by
  have hs : s ≠ [] := by rintro rfl; cases hc
  have := congrArg List.length (cutC_some hc)
  rw [List.length_append, List.length_cons] at this
  unfold readN
  rw [readO, if_neg hs, hc]
  dsimp only
  rw [readO_eq s.length (rest.length + 1) rest (by omega) (by omega)]
end Go.Proofs.YtijdbjjkfkjihaaGreatDoor

/- The least names, one behind the other, are the sorted ones. Conditions: none. -/
namespace Go.Proofs.YtijdbjjkfkjihaaGreatDoor
open Go.Sy
set_option maxRecDepth 100000
set_option linter.all false
theorem compact_mem {l : List (List UInt8)} (x : List UInt8) : x ∈ Lib.compact l ↔ x ∈ l := by
  have hb : ∀ i (hi : i < l.length), (l.toArray)[i]! = l[i] := fun i hi => by
    rw [getElem!_pos l.toArray i (by simpa using hi)]; simp
  unfold Lib.compact Lib.compactUpTo
  constructor
  · intro h
    obtain ⟨i, hi, rfl⟩ := List.mem_map.1 h
    have := List.mem_range.1 (List.mem_filter.1 hi).1
    rw [hb i this]
    exact List.getElem_mem _
  · intro h
    have key : ∀ i (hi : i < l.length), l[i] ∈ ((List.range l.length).filter (Lib.keeps l.toArray)).map (l.toArray[·]!) := by
      intro i
      induction i with
      | zero =>
        intro hi
        refine List.mem_map.2 ⟨0, List.mem_filter.2 ⟨List.mem_range.2 hi, by simp [Lib.keeps]⟩, hb 0 hi⟩
      | succ i ih =>
        intro hi
        by_cases e : l[i + 1] = l[i]
        · rw [e]; exact ih (by omega)
        · refine List.mem_map.2 ⟨i + 1, List.mem_filter.2 ⟨List.mem_range.2 hi, ?_⟩, hb _ hi⟩
          unfold Lib.keeps
          refine decide_eq_true (.inr ?_)
          rw [hb _ hi, Nat.add_sub_cancel, hb i (by omega)]
          exact e
    obtain ⟨i, hi, rfl⟩ := List.getElem_of_mem h
    exact key i hi
end Go.Proofs.YtijdbjjkfkjihaaGreatDoor

/- The tree of a disk. Conditions: none. -/
namespace Go.Proofs.YtijdbjjkfkjihaaGreatDoor
open Go.Sy
set_option maxRecDepth 100000
set_option linter.all false
def kOf (f : Int → List UInt8) (n : Int) (s : List UInt8) : Int := match fndK f n s with
  | some k => (k : Nat)
  | none => 0
def mOf (f : Int → List UInt8) (n : Int) (s : List UInt8) : Int := (entAt f (kOf f n s)).t
def dataV (f : Int → List UInt8) (x : Ino) : List UInt8 := (f (40 + x.b0) ++ f (40 + x.b1) ++ f (40 + x.b2) ++ f (40 + x.b3)).take x.z.toNat
def nodV (f : Int → List UInt8) (way : List (List UInt8)) (n : Int) (s : List UInt8) : Nod := ⟨joinR (way ++ [s]), (inoAt f (mOf f n s)).k == 2, dataV f (inoAt f (mOf f n s))⟩
def subV (f : Int → List UInt8) : Nat → Int → List (List UInt8) → List Nod
  | 0, _, _ => []
  | j + 1, n, way => (nms f n).flatMap fun s => nodV f way n s :: (if (inoAt f (mOf f n s)).k = 2 then subV f j (mOf f n s) (way ++ [s]) else [])
/-- What is in a folder by some of its names. -/
def subL (f : Int → List UInt8) (j : Nat) (n : Int) (way : List (List UInt8)) (l : List (List UInt8)) : List Nod := l.flatMap fun s => nodV f way n s :: (if (inoAt f (mOf f n s)).k = 2 then subV f j (mOf f n s) (way ++ [s]) else [])
theorem subL_cons (f : Int → List UInt8) (j : Nat) (n : Int) (way : List (List UInt8)) (s : List UInt8) (l : List (List UInt8)) : subL f j n way (s :: l) = nodV f way n s :: ((if (inoAt f (mOf f n s)).k = 2 then subV f j (mOf f n s) (way ++ [s]) else []) ++ subL f j n way l) := by
  unfold subL
  rw [List.flatMap_cons]; rfl
/-- So many nodes at most. -/
def topV (L : List Nod) : List Nod × Bool := (L.take 64, decide (L.length ≤ 64))
def treeV (f : Int → List UInt8) : List Nod × Bool := if (inoAt f 0).k = 2 then topV (subV f 4 0 []) else ([], true)
def tupN (r : List Nod × Bool) : AV := .tup [.d (.fs 3 (r.1.map encN)), .d (.bl r.2)]
theorem entAt_RE (f : Int → List UInt8) (k : Int) : RE (entAt f k) := by
  unfold entAt
  split
  · unfold entOf
    split
    · rename_i h; exact h.1
    · exact .inl ⟨rfl, rfl, rfl, rfl⟩
  · exact .inl ⟨rfl, rfl, rfl, rfl⟩
theorem inoAt_RI (f : Int → List UInt8) (n : Int) : RI (inoAt f n) := by
  have h0 : RI ino0 := by decide
  unfold inoAt
  split
  · unfold inoOf
    split
    · rename_i h; exact h.1
    · exact h0
  · exact h0
theorem nms_name (f : Int → List UInt8) (n : Int) : ∀ s ∈ nms f n, nameB s = true := by
  intro s hs
  unfold nms at hs
  rw [compact_mem] at hs
  have hs := (List.mem_mergeSort).1 hs
  unfold nmsK at hs
  obtain ⟨k, hk, rfl⟩ := List.mem_map.1 hs
  have := of_decide_eq_true (List.mem_filter.1 hk).2
  have hu := this.1
  rcases entAt_RE f (k : Nat) with h | h
  · rw [h.1] at hu; cases hu
  · exact h.2.2.2.2.2
theorem name_len {s : List UInt8} (h : nameB s = true) : s.length ≤ 8 := by
  unfold nameB at h
  rw [Bool.and_eq_true] at h
  exact (of_decide_eq_true h.1).2.1
theorem nms_len (f : Int → List UInt8) (n : Int) : (nms f n).length ≤ 24 := by
  unfold nms
  have h1 := Lib.compact_length_le (sortS (nmsK f n 24))
  have h2 := nmsK_len f n 24
  rw [sortS_len] at h1
  omega
end Go.Proofs.YtijdbjjkfkjihaaGreatDoor

/- The bytes of a file. Conditions: none. -/
namespace Go.Proofs.YtijdbjjkfkjihaaGreatDoor
open Go.Sy
set_option maxRecDepth 100000
set_option linter.all false
def accD (f : Int → List UInt8) (x : Ino) (k : Nat) : List UInt8 := (dataV f x).take (32 * k)
def blkI (x : Ino) : Nat → Int
  | 0 => x.b0
  | 1 => x.b1
  | 2 => x.b2
  | _ => x.b3
theorem acc_step {f : Int → List UInt8} (hf : ∀ n, (f n).length = 32) (x : Ino) {k m : Nat} (hk : k < 4) (hm : (m : Int) = min 32 (x.z - 32 * (k : Int))) (hz : 32 * (k : Int) < x.z) : accD f x (k + 1) = accD f x k ++ (f (40 + blkI x k)).take m := by
  have hc : ((f (40 + x.b0) ++ f (40 + x.b1) ++ f (40 + x.b2) ++ f (40 + x.b3)).drop (32 * k)).take 32 = f (40 + blkI x k) := by
    have h0 := hf (40 + x.b0)
    have h1 := hf (40 + x.b1)
    have h2 := hf (40 + x.b2)
    have h3 := hf (40 + x.b3)
    have hk' : k = 0 ∨ k = 1 ∨ k = 2 ∨ k = 3 := by omega
    rcases hk' with rfl | rfl | rfl | rfl
    · show ((f (40 + x.b0) ++ f (40 + x.b1) ++ f (40 + x.b2) ++ f (40 + x.b3)).drop 0).take 32 = f (40 + x.b0)
      rw [List.drop_zero, List.append_assoc, List.append_assoc, List.take_left' h0]
    · show ((f (40 + x.b0) ++ f (40 + x.b1) ++ f (40 + x.b2) ++ f (40 + x.b3)).drop 32).take 32 = f (40 + x.b1)
      rw [List.append_assoc, List.append_assoc, List.drop_left' h0, List.take_left' h1]
    · show ((f (40 + x.b0) ++ f (40 + x.b1) ++ f (40 + x.b2) ++ f (40 + x.b3)).drop 64).take 32 = f (40 + x.b2)
      rw [List.append_assoc (f (40 + x.b0) ++ f (40 + x.b1)), List.drop_left' (by rw [List.length_append]; omega), List.take_left' h2]
    · show ((f (40 + x.b0) ++ f (40 + x.b1) ++ f (40 + x.b2) ++ f (40 + x.b3)).drop 96).take 32 = f (40 + x.b3)
      rw [List.drop_left' (by rw [List.length_append, List.length_append]; omega), List.take_of_length_le (by omega)]
  unfold accD dataV
  generalize f (40 + x.b0) ++ f (40 + x.b1) ++ f (40 + x.b2) ++ f (40 + x.b3) = L at *
  rw [← hc, show 32 * (k + 1) = 32 * k + 32 by omega, List.take_add]
  congr 1
  rw [List.drop_take, List.take_take, List.take_take]
  congr 1
  omega
theorem acc_len (f : Int → List UInt8) (x : Ino) (k : Nat) : (accD f x k).length ≤ 32 * k := by unfold accD; exact List.length_take_le ..
theorem acc_end {f : Int → List UInt8} {x : Ino} {k : Nat} (h : x.z ≤ 32 * (k : Int)) : accD f x k = dataV f x := by
  unfold accD
  refine List.take_of_length_le ?_
  unfold dataV
  rw [List.length_take]; omega
def daA (d : Option Dk) (x : Ino) : Nat → S
  | 0 => ⟨[(0, .d (encD d)), (3, .ptr 0 0), (5, .ptr 1 0), (6, .d (.it .i64 0))], [(0, .cells 6 ((encI x).map .d)), (1, .cells 2 [.d (.ot (.pointer none)), .nl 1]), (2, .tag 1 76)], 3⟩
  | k + 1 => ⟨[(0, .d (encD d)), (3, .ptr 0 0), (5, .ptr 1 0), (6, .d (.it .i64 (32 * (k + 1) : Nat)))], [(0, .cells 6 ((encI x).map .d)), (1, .cells 2 [.ptr 1 0, .ts 1 (bytesD (accD (rdS d) x (k + 1))) 5]), (2, .tag 1 76), (5, .tail 5 true)], 6⟩
theorem sec_ms {s : List UInt8} {m : Nat} (hs : s.length = 32) (hm : m ≤ 32) : MsV 3 32 ((encS s).map AV.d ++ []) (.ms 1 3 0 m 32) (.d (.fs 1 (bytesD (s.take m)))) := by
  refine .inr ⟨1, 0, m, 32, _, rfl, rfl, by omega, by unfold bytesD; rw [List.length_map, List.length_take]; omega, fun y hy => ?_, ?_⟩
  · obtain ⟨b, _, rfl⟩ := List.mem_map.1 hy
    rfl
  · rw [bytes_flat', List.drop_zero, Nat.mul_one, List.append_nil]
    unfold encS
    rw [List.map_take, List.map_take]
theorem sec_ms6 {s : List UInt8} {m : Nat} (hs : s.length = 32) (hm : m ≤ 32) : MsV 6 32 ((encS s).map AV.d ++ []) (.ms 1 6 0 m 32) (.d (.fs 1 (bytesD (s.take m)))) := by
  refine .inr ⟨1, 0, m, 32, _, rfl, rfl, by omega, by unfold bytesD; rw [List.length_map, List.length_take]; omega, fun y hy => ?_, ?_⟩
  · obtain ⟨b, _, rfl⟩ := List.mem_map.1 hy
    rfl
  · rw [bytes_flat', List.drop_zero, Nat.mul_one, List.append_nil]
    unfold encS
    rw [List.map_take, List.map_take]
theorem cells_d0 {y z : List UInt8} (h : y = z) : Ob.cells 2 [.ptr 1 0, .ts 1 (bytesD y) 5] = Ob.cells 2 [.ptr 1 0, .ts 1 (bytesD z) 5] := by rw [h]
theorem cells_d1 {x y z : List UInt8} (h : x ++ y = z) : Ob.cells 2 [.ptr 1 0, .ts 1 (bytesD x ++ bytesD y) 5] = Ob.cells 2 [.ptr 1 0, .ts 1 (bytesD z) 5] := by rw [← h, bytesD_app]
set_option maxHeartbeats 8000000 in
theorem data_ok (d : Option Dk) (hd : DkOK d) (x : Ino) (hx : RI x) : FnC Tryz.prog 65 [.d (encD d), .dg 6 (encI x)] (.d (.st (dataV (rdS d) x))) := by
  have hr : ∀ b : Int, FnC Tryz.prog 86 [.d (encD d), .d (.it .i64 (41 + b - 1))] (.tup [.dg 32 (encS (rdS d (40 + b))), .d (.it .i64 (rdE d (41 + b - 1)))]) := fun b => by
    have h := read_ok d hd (41 + b - 1)
    rw [show rdS d (40 + b) = rdS d (41 + b - 1) from congrArg _ (by omega)]
    exact h
  have hl := fun n => rdS_len hd n
  have hz : 0 ≤ x.z ∧ x.z ≤ 128 := by
    rcases hx with h | h <;> omega
  have hb : (-1000 ≤ x.b0 ∧ x.b0 ≤ 1000) ∧ (-1000 ≤ x.b1 ∧ x.b1 ≤ 1000) ∧ (-1000 ≤ x.b2 ∧ x.b2 ≤ 1000) ∧ (-1000 ≤ x.b3 ∧ x.b3 ≤ 1000) := by
    rcases hx with h | h
    · omega
    · refine ⟨?_, ?_, ?_, ?_⟩ <;> omega
  refine FnC.intro ti_ok Tryz.func65 rfl Tryz.ntmps65 Tryz.call65 rfl (Nat.le_of_ble_eq_true rfl) rfl ?_
  (repeat' ((conv=>whnf);first|with_reducible refine gA ?_|(with_reducible first|refine gB ?_|refine gZ (fun x hx hu=>?_)|refine gY (fun x hx=>?_)|refine gE ?_|refine Both.mk ?_ ?_|refine gS (fun h=>?_) (fun h=>?_)|refine Spl.nt ?_|refine Spl.mk (fun h=>?_) (fun h=>?_))))
  refine loop_rule ti_ok (fun k : Nat => k ≤ 4) (daA d x) (fun k => 4 - k) 0 (Nat.zero_le _) ⟨And.intro rfl (And.intro rfl (And.intro rfl (And.intro rfl trivial))), And.intro rfl (And.intro rfl (And.intro rfl trivial)), rfl⟩ ?_
  intro k hk
  have hal := acc_len (rdS d) x k
  by_cases hkz : 32 * (k : Int) < x.z
  · have hk4 : k < 4 := by omega
    obtain ⟨m, hm, hm2, hm32⟩ : ∃ m : Nat, (if x.z - ((32 * k : Nat) : Int) < 32 then x.z - ((32 * k : Nat) : Int) else 32) = (m : Int) ∧ (m : Int) = min 32 (x.z - 32 * (k : Int)) ∧ m ≤ 32 := ⟨(if x.z - ((32 * k : Nat) : Int) < 32 then x.z - ((32 * k : Nat) : Int) else 32).toNat, by split <;> omega, by split <;> omega, by split <;> omega⟩
    have hst := acc_step (f := rdS d) hl x hk4 hm2 hkz
    have hlb : (bytesD (accD (rdS d) x k)).length = (accD (rdS d) x k).length := by simp [bytesD]
    have hls := hl (40 + blkI x k)
    have hlt : (bytesD ((rdS d (40 + blkI x k)).take m)).length ≤ 32 := by unfold bytesD; rw [List.length_map, List.length_take]; omega
    have hkc : ((32 * k : Nat) : Int) < x.z := by omega
    match k, hk, hkc, hm, hst, hlb, hls, hlt, hal with
    | 0, hk, hkc, hm, hst, hlb, hls, hlt, hal =>
      have hr0 := hr x.b0
      have hlt2 : ((rdS d (40 + x.b0)).take m).length ≤ 32 := by rw [List.length_take]; omega
      have hlt3 : (bytesD ((rdS d (40 + x.b0)).take m)).length ≤ 32 := hlt
      (repeat' ((conv=>whnf);first|with_reducible refine gA ?_|((with_reducible refine callE_id ?_); refine CallE.con ⟨_, hr0, ?_⟩) | with_reducible refine LetI.eq 0 (by decide +kernel) ?_ | with_reducible refine LetI.eq (m : Int) (by with_unfolding_all exact hm) ?_|(with_reducible first|refine gB ?_|refine gZ (fun x hx hu=>?_)|refine gY (fun x hx=>?_)|refine gE ?_|refine Both.mk ?_ ?_|refine gS (fun h=>?_) (fun h=>?_)|refine Spl.nt ?_|refine Spl.mk (fun h=>?_) (fun h=>?_))))
      refine CallI.wk (τ := ⟨[(32, .d (.fs 1 (bytesD ((rdS d (40 + x.b0)).take m)))), (0, .d (encD d)), (3, .ptr 0 0), (5, .ptr 1 0), (6, .d (.it .i64 0))], [(0, .cells 6 ((encI x).map .d)), (1, .cells 2 [.d (.ot (.pointer none)), .nl 1]), (2, .tag 1 76)], 3⟩) (Wk.frzMsL 3 32 ((encS (rdS d (40 + x.b0))).map AV.d ++ []) rfl (And.intro ⟨_, rfl, sec_ms hls hm32⟩ (And.intro ⟨_, rfl, .inl rfl⟩ (And.intro ⟨_, rfl, .inl rfl⟩ (And.intro ⟨_, rfl, .inl rfl⟩ (And.intro ⟨_, rfl, .inl rfl⟩ trivial))))) (And.intro ⟨rfl, rfl⟩ (And.intro ⟨rfl, rfl⟩ (And.intro ⟨rfl, rfl⟩ (trivial)))) rfl) ⟨_, _, _, _, _, _, rfl, rfl, rfl, rfl⟩ ?_
      (repeat' ((conv=>whnf);first|with_reducible refine gA ?_|with_reducible refine CallI.inl ti_ok i102 rfl ?_ | with_reducible refine CallI.inl ti_ok i82 rfl ?_ | with_reducible refine CallI.ident noEsc (by with_unfolding_all exact rfl) ?_|(with_reducible first|refine gB ?_|refine gZ (fun x hx hu=>?_)|refine gY (fun x hx=>?_)|refine gE ?_|refine Both.mk ?_ ?_|refine gS (fun h=>?_) (fun h=>?_)|refine Spl.nt ?_|refine Spl.mk (fun h=>?_) (fun h=>?_))))
      refine again 1 (by omega) (by dsimp only; omega) (And.intro rfl (And.intro rfl (And.intro rfl (And.intro rfl trivial)))) (And.intro rfl (And.intro (cells_d0 ?_) (And.intro rfl (And.intro rfl trivial)))) rfl
      exact hst.symm
    | 1, hk, hkc, hm, hst, hlb, hls, hlt, hal =>
      have hr0 := hr x.b1
      have hlt2 : ((rdS d (40 + x.b1)).take m).length ≤ 32 := by rw [List.length_take]; omega
      have hlt3 : (bytesD ((rdS d (40 + x.b1)).take m)).length ≤ 32 := hlt
      (repeat' ((conv=>whnf);first|with_reducible refine gA ?_|((with_reducible refine callE_id ?_); refine CallE.con ⟨_, hr0, ?_⟩) | with_reducible refine LetI.eq 1 (by decide +kernel) ?_ | with_reducible refine LetI.eq (m : Int) (by with_unfolding_all exact hm) ?_|(with_reducible first|refine gB ?_|refine gZ (fun x hx hu=>?_)|refine gY (fun x hx=>?_)|refine gE ?_|refine Both.mk ?_ ?_|refine gS (fun h=>?_) (fun h=>?_)|refine Spl.nt ?_|refine Spl.mk (fun h=>?_) (fun h=>?_))))
      refine CallI.wk (τ := ⟨[(32, .d (.fs 1 (bytesD ((rdS d (40 + x.b1)).take m)))), (0, .d (encD d)), (3, .ptr 0 0), (5, .ptr 1 0), (6, .d (.it .i64 (32 * (0 + 1) : Nat)))], [(0, .cells 6 ((encI x).map .d)), (1, .cells 2 [.ptr 1 0, .ts 1 (bytesD (accD (rdS d) x 1)) 5]), (2, .tag 1 76), (5, .tail 5 true)], 6⟩) (Wk.frzMsL 6 32 ((encS (rdS d (40 + x.b1))).map AV.d ++ []) rfl (And.intro ⟨_, rfl, sec_ms6 hls hm32⟩ (And.intro ⟨_, rfl, .inl rfl⟩ (And.intro ⟨_, rfl, .inl rfl⟩ (And.intro ⟨_, rfl, .inl rfl⟩ (And.intro ⟨_, rfl, .inl rfl⟩ trivial))))) (And.intro ⟨rfl, rfl⟩ (And.intro ⟨rfl, rfl⟩ (And.intro ⟨rfl, rfl⟩ (And.intro ⟨rfl, rfl⟩ (trivial))))) rfl) ⟨_, _, _, _, _, _, rfl, rfl, rfl, rfl⟩ ?_
      (repeat' ((conv=>whnf);first|with_reducible refine gA ?_|with_reducible refine CallI.inl ti_ok i102 rfl ?_ | with_reducible refine CallI.inl ti_ok i82 rfl ?_ | with_reducible refine CallI.ident noEsc (by with_unfolding_all exact rfl) ?_|(with_reducible first|refine gB ?_|refine gZ (fun x hx hu=>?_)|refine gY (fun x hx=>?_)|refine gE ?_|refine Both.mk ?_ ?_|refine gS (fun h=>?_) (fun h=>?_)|refine Spl.nt ?_|refine Spl.mk (fun h=>?_) (fun h=>?_))))
      refine again 2 (by omega) (by dsimp only; omega) (And.intro rfl (And.intro rfl (And.intro rfl (And.intro rfl trivial)))) (And.intro rfl (And.intro (cells_d1 ?_) (And.intro rfl (And.intro rfl trivial)))) rfl
      exact hst.symm
    | 2, hk, hkc, hm, hst, hlb, hls, hlt, hal =>
      have hr0 := hr x.b2
      have hlt2 : ((rdS d (40 + x.b2)).take m).length ≤ 32 := by rw [List.length_take]; omega
      have hlt3 : (bytesD ((rdS d (40 + x.b2)).take m)).length ≤ 32 := hlt
      (repeat' ((conv=>whnf);first|with_reducible refine gA ?_|((with_reducible refine callE_id ?_); refine CallE.con ⟨_, hr0, ?_⟩) | with_reducible refine LetI.eq 2 (by decide +kernel) ?_ | with_reducible refine LetI.eq (m : Int) (by with_unfolding_all exact hm) ?_|(with_reducible first|refine gB ?_|refine gZ (fun x hx hu=>?_)|refine gY (fun x hx=>?_)|refine gE ?_|refine Both.mk ?_ ?_|refine gS (fun h=>?_) (fun h=>?_)|refine Spl.nt ?_|refine Spl.mk (fun h=>?_) (fun h=>?_))))
      refine CallI.wk (τ := ⟨[(32, .d (.fs 1 (bytesD ((rdS d (40 + x.b2)).take m)))), (0, .d (encD d)), (3, .ptr 0 0), (5, .ptr 1 0), (6, .d (.it .i64 (32 * (1 + 1) : Nat)))], [(0, .cells 6 ((encI x).map .d)), (1, .cells 2 [.ptr 1 0, .ts 1 (bytesD (accD (rdS d) x 2)) 5]), (2, .tag 1 76), (5, .tail 5 true)], 6⟩) (Wk.frzMsL 6 32 ((encS (rdS d (40 + x.b2))).map AV.d ++ []) rfl (And.intro ⟨_, rfl, sec_ms6 hls hm32⟩ (And.intro ⟨_, rfl, .inl rfl⟩ (And.intro ⟨_, rfl, .inl rfl⟩ (And.intro ⟨_, rfl, .inl rfl⟩ (And.intro ⟨_, rfl, .inl rfl⟩ trivial))))) (And.intro ⟨rfl, rfl⟩ (And.intro ⟨rfl, rfl⟩ (And.intro ⟨rfl, rfl⟩ (And.intro ⟨rfl, rfl⟩ (trivial))))) rfl) ⟨_, _, _, _, _, _, rfl, rfl, rfl, rfl⟩ ?_
      (repeat' ((conv=>whnf);first|with_reducible refine gA ?_|with_reducible refine CallI.inl ti_ok i102 rfl ?_ | with_reducible refine CallI.inl ti_ok i82 rfl ?_ | with_reducible refine CallI.ident noEsc (by with_unfolding_all exact rfl) ?_|(with_reducible first|refine gB ?_|refine gZ (fun x hx hu=>?_)|refine gY (fun x hx=>?_)|refine gE ?_|refine Both.mk ?_ ?_|refine gS (fun h=>?_) (fun h=>?_)|refine Spl.nt ?_|refine Spl.mk (fun h=>?_) (fun h=>?_))))
      refine again 3 (by omega) (by dsimp only; omega) (And.intro rfl (And.intro rfl (And.intro rfl (And.intro rfl trivial)))) (And.intro rfl (And.intro (cells_d1 ?_) (And.intro rfl (And.intro rfl trivial)))) rfl
      exact hst.symm
    | 3, hk, hkc, hm, hst, hlb, hls, hlt, hal =>
      have hr0 := hr x.b3
      have hlt2 : ((rdS d (40 + x.b3)).take m).length ≤ 32 := by rw [List.length_take]; omega
      have hlt3 : (bytesD ((rdS d (40 + x.b3)).take m)).length ≤ 32 := hlt
      (repeat' ((conv=>whnf);first|with_reducible refine gA ?_|((with_reducible refine callE_id ?_); refine CallE.con ⟨_, hr0, ?_⟩) | with_reducible refine LetI.eq 3 (by decide +kernel) ?_ | with_reducible refine LetI.eq (m : Int) (by with_unfolding_all exact hm) ?_|(with_reducible first|refine gB ?_|refine gZ (fun x hx hu=>?_)|refine gY (fun x hx=>?_)|refine gE ?_|refine Both.mk ?_ ?_|refine gS (fun h=>?_) (fun h=>?_)|refine Spl.nt ?_|refine Spl.mk (fun h=>?_) (fun h=>?_))))
      refine CallI.wk (τ := ⟨[(32, .d (.fs 1 (bytesD ((rdS d (40 + x.b3)).take m)))), (0, .d (encD d)), (3, .ptr 0 0), (5, .ptr 1 0), (6, .d (.it .i64 (32 * (2 + 1) : Nat)))], [(0, .cells 6 ((encI x).map .d)), (1, .cells 2 [.ptr 1 0, .ts 1 (bytesD (accD (rdS d) x 3)) 5]), (2, .tag 1 76), (5, .tail 5 true)], 6⟩) (Wk.frzMsL 6 32 ((encS (rdS d (40 + x.b3))).map AV.d ++ []) rfl (And.intro ⟨_, rfl, sec_ms6 hls hm32⟩ (And.intro ⟨_, rfl, .inl rfl⟩ (And.intro ⟨_, rfl, .inl rfl⟩ (And.intro ⟨_, rfl, .inl rfl⟩ (And.intro ⟨_, rfl, .inl rfl⟩ trivial))))) (And.intro ⟨rfl, rfl⟩ (And.intro ⟨rfl, rfl⟩ (And.intro ⟨rfl, rfl⟩ (And.intro ⟨rfl, rfl⟩ (trivial))))) rfl) ⟨_, _, _, _, _, _, rfl, rfl, rfl, rfl⟩ ?_
      (repeat' ((conv=>whnf);first|with_reducible refine gA ?_|with_reducible refine CallI.inl ti_ok i102 rfl ?_ | with_reducible refine CallI.inl ti_ok i82 rfl ?_ | with_reducible refine CallI.ident noEsc (by with_unfolding_all exact rfl) ?_|(with_reducible first|refine gB ?_|refine gZ (fun x hx hu=>?_)|refine gY (fun x hx=>?_)|refine gE ?_|refine Both.mk ?_ ?_|refine gS (fun h=>?_) (fun h=>?_)|refine Spl.nt ?_|refine Spl.mk (fun h=>?_) (fun h=>?_))))
      refine again 4 (by omega) (by dsimp only; omega) (And.intro rfl (And.intro rfl (And.intro rfl (And.intro rfl trivial)))) (And.intro rfl (And.intro (cells_d1 ?_) (And.intro rfl (And.intro rfl trivial)))) rfl
      exact hst.symm
  · have he := acc_end (f := rdS d) (x := x) (k := k) (by omega)
    have hlb : (bytesD (accD (rdS d) x k)).length = (accD (rdS d) x k).length := by simp [bytesD]
    match k, hk, hkz, he, hlb, hal with
    | 0, hk, hkz, he, hlb, hal =>
      (repeat' ((conv=>whnf);first|with_reducible refine gA ?_|with_reducible refine CallI.inl ti_ok i38 rfl ?_|(with_reducible first|refine gB ?_|refine gZ (fun x hx hu=>?_)|refine gY (fun x hx=>?_)|refine gE ?_|refine Both.mk ?_ ?_|refine gS (fun h=>?_) (fun h=>?_)|refine Spl.nt ?_|refine Spl.mk (fun h=>?_) (fun h=>?_))))
      refine st_eq ?_
      rw [← he]; rfl
    | k + 1, hk, hkz, he, hlb, hal =>
      (repeat' ((conv=>whnf);first|with_reducible refine gA ?_|with_reducible refine CallI.inl ti_ok i38 rfl ?_|(with_reducible first|refine gB ?_|refine gZ (fun x hx hu=>?_)|refine gY (fun x hx=>?_)|refine gE ?_|refine Both.mk ?_ ?_|refine gS (fun h=>?_) (fun h=>?_)|refine Spl.nt ?_|refine Spl.mk (fun h=>?_) (fun h=>?_))))
      refine ⟨accD (rdS d) x (k + 1), ⟨rfl, ?_, by omega⟩, ?_⟩
      · show ((bytesD (accD (rdS d) x (k + 1))).length : Int) = _; rw [hlb]
      · rw [he]; rfl
end Go.Proofs.YtijdbjjkfkjihaaGreatDoor

/- Texts cut at a byte; a byte of two digits. Conditions: none. -/
namespace Go.Proofs.YtijdbjjkfkjihaaGreatDoor
open Go.Sy
set_option maxRecDepth 100000
set_option linter.all false
theorem hasPreC_ok (c : UInt8) (s : List UInt8) : FnC Tryz.prog 106 [.d (.st s), .d (.st [c])] (.d (.bl (decide (s.head? = some c)))) := by
  refine FnC.intro ti_ok Tryz.func106 rfl Tryz.ntmps106 Tryz.call106 rfl (Nat.le_of_ble_eq_true rfl) rfl ?_
  match s with
  | [] =>
    (repeat' ((conv=>whnf);first|with_reducible refine gA ?_|(with_reducible first|refine gB ?_|refine gZ (fun x hx hu=>?_)|refine gY (fun x hx=>?_)|refine gE ?_|refine Both.mk ?_ ?_|refine gS (fun h=>?_) (fun h=>?_)|refine Spl.nt ?_|refine Spl.mk (fun h=>?_) (fun h=>?_))))
    rfl
  | b :: r =>
    (repeat' ((conv=>whnf);first|with_reducible refine gA ?_|(with_reducible first|refine gB ?_|refine gZ (fun x hx hu=>?_)|refine gY (fun x hx=>?_)|refine gE ?_|refine Both.mk ?_ ?_|refine gS (fun h=>?_) (fun h=>?_)|refine Spl.nt ?_|refine Spl.mk (fun h=>?_) (fun h=>?_))))
    · refine bl_eq ?_
      show ([b] == [c]) = decide (some b = some c)
      by_cases hb : b = c
      · subst hb; rw [decide_eq_true rfl]; exact beq_self_eq_true _
      · rw [seq_ff (by simpa using hb)]; exact (decide_eq_false (by simpa using hb)).symm
    · exfalso; simp at h; omega
theorem cutPC_ok (c : UInt8) (s : List UInt8) : FnC Tryz.prog 33 [.d (.st s), .d (.st [c])] (.tup [.d (.st (if s.head? = some c then s.drop 1 else s)), .d (.bl (decide (s.head? = some c)))]) := by
  have h := hasPreC_ok c s
  refine FnC.intro ti_ok Tryz.func33 rfl Tryz.ntmps33 Tryz.call33 rfl (Nat.le_of_ble_eq_true rfl) rfl ?_
  by_cases hc : s.head? = some c
  · rw [if_pos hc]
    rw [decide_eq_true hc] at h ⊢
    have hl : 1 ≤ s.length := by cases s with | nil => cases hc | cons => simp
    (repeat' ((conv=>whnf);first|with_reducible refine gA ?_|with_reducible refine CallI.inl ti_ok i79 rfl ?_ | ((with_reducible refine callE_id ?_); first | refine CallE.con ⟨_, h, ?_⟩ | refine CallE.inl ?_)|(with_reducible first|refine gB ?_|refine gZ (fun x hx hu=>?_)|refine gY (fun x hx=>?_)|refine gE ?_|refine Both.mk ?_ ?_|refine gS (fun h=>?_) (fun h=>?_)|refine Spl.nt ?_|refine Spl.mk (fun h=>?_) (fun h=>?_))))
    exact tup_st rfl
  · rw [if_neg hc]
    rw [decide_eq_false hc] at h ⊢
    (repeat' ((conv=>whnf);first|with_reducible refine gA ?_|with_reducible refine CallI.inl ti_ok i79 rfl ?_ | ((with_reducible refine callE_id ?_); first | refine CallE.con ⟨_, h, ?_⟩ | refine CallE.inl ?_)|(with_reducible first|refine gB ?_|refine gZ (fun x hx hu=>?_)|refine gY (fun x hx=>?_)|refine gE ?_|refine Both.mk ?_ ?_|refine gS (fun h=>?_) (fun h=>?_)|refine Spl.nt ?_|refine Spl.mk (fun h=>?_) (fun h=>?_))))
    rfl
theorem last_drop (s : List UInt8) (c : UInt8) (h : 1 ≤ s.length) : (s.drop (s.length - 1) == [c]) = decide (s.getLast? = some c) := by
  have hne : s ≠ [] := by rintro rfl; simp at h
  have e := List.dropLast_concat_getLast hne
  generalize s.getLast hne = x at e
  generalize s.dropLast = i at e
  subst e
  rw [List.getLast?_concat, List.length_append, List.length_singleton, Nat.add_sub_cancel, List.drop_left]
  by_cases hb : x = c
  · rw [hb, decide_eq_true rfl]; exact beq_self_eq_true _
  · rw [seq_ff (by simpa using hb)]; exact (decide_eq_false (by simpa using hb)).symm
theorem hasSufC_ok (c : UInt8) (s : List UInt8) (hs : s.length ≤ 1000000) : FnC Tryz.prog 107 [.d (.st s), .d (.st [c])] (.d (.bl (decide (s.getLast? = some c)))) := by
  refine FnC.intro ti_ok Tryz.func107 rfl Tryz.ntmps107 Tryz.call107 rfl (Nat.le_of_ble_eq_true rfl) rfl ?_
  have hc1 : ([c] : List UInt8).length = 1 := rfl
  by_cases h1 : 1 ≤ s.length
  · rw [← last_drop s c h1]
    (repeat' ((conv=>whnf);first|with_reducible refine gA ?_|(with_reducible first|refine gB ?_|refine gZ (fun x hx hu=>?_)|refine gY (fun x hx=>?_)|refine gE ?_|refine Both.mk ?_ ?_|refine gS (fun h=>?_) (fun h=>?_)|refine Spl.nt ?_|refine Spl.mk (fun h=>?_) (fun h=>?_))))
    refine bl_eq ?_
    show (s.drop _ == [c]) = _
    congr 2
    omega
  · have : s = [] := List.length_eq_zero_iff.1 (by omega)
    subst this
    (repeat' ((conv=>whnf);first|with_reducible refine gA ?_|(with_reducible first|refine gB ?_|refine gZ (fun x hx hu=>?_)|refine gY (fun x hx=>?_)|refine gE ?_|refine Both.mk ?_ ?_|refine gS (fun h=>?_) (fun h=>?_)|refine Spl.nt ?_|refine Spl.mk (fun h=>?_) (fun h=>?_))))
    rfl
theorem cutSC_ok (c : UInt8) (s : List UInt8) (hs : s.length ≤ 1000000) : FnC Tryz.prog 34 [.d (.st s), .d (.st [c])] (.tup [.d (.st (if s.getLast? = some c then s.dropLast else s)), .d (.bl (decide (s.getLast? = some c)))]) := by
  have h := hasSufC_ok c s hs
  refine FnC.intro ti_ok Tryz.func34 rfl Tryz.ntmps34 Tryz.call34 rfl (Nat.le_of_ble_eq_true rfl) rfl ?_
  by_cases hc : s.getLast? = some c
  · rw [if_pos hc]
    rw [decide_eq_true hc] at h ⊢
    have hl : 1 ≤ s.length := by cases s with | nil => cases hc | cons => simp
    (repeat' ((conv=>whnf);first|with_reducible refine gA ?_|with_reducible refine CallI.inl ti_ok i80 rfl ?_ | ((with_reducible refine callE_id ?_); first | refine CallE.con ⟨_, h, ?_⟩ | refine CallE.inl ?_)|(with_reducible first|refine gB ?_|refine gZ (fun x hx hu=>?_)|refine gY (fun x hx=>?_)|refine gE ?_|refine Both.mk ?_ ?_|refine gS (fun h=>?_) (fun h=>?_)|refine Spl.nt ?_|refine Spl.mk (fun h=>?_) (fun h=>?_))))
    refine tup_st ?_
    rw [List.dropLast_eq_take]
    show s.take _ = s.take _
    congr 1
    have hc1 : ([c] : List UInt8).length = 1 := rfl
    omega
  · rw [if_neg hc]
    rw [decide_eq_false hc] at h ⊢
    (repeat' ((conv=>whnf);first|with_reducible refine gA ?_|with_reducible refine CallI.inl ti_ok i80 rfl ?_ | ((with_reducible refine callE_id ?_); first | refine CallE.con ⟨_, h, ?_⟩ | refine CallE.inl ?_)|(with_reducible first|refine gB ?_|refine gZ (fun x hx hu=>?_)|refine gY (fun x hx=>?_)|refine gE ?_|refine Both.mk ?_ ?_|refine gS (fun h=>?_) (fun h=>?_)|refine Spl.nt ?_|refine Spl.mk (fun h=>?_) (fun h=>?_))))
    rfl
theorem indexL_ok (s : List UInt8) (c : UInt8) : FnC Tryz.prog 110 [.d (.st s), .d (.st [c])] (.d (.it .i64 (Lib.indexByte s c))) := still_ok Tryz.call110 fun w => Tryz.stringslite_Index_one ⟨s.toArray⟩ c w
def cutA (r : List UInt8 × Option (List UInt8)) : AV := .tup [.d (.st r.1), .d (.st (r.2.getD [])), .d (.bl r.2.isSome)]
theorem cutC_ok (c : UInt8) (s : List UInt8) (hs : s.length ≤ 1000000) : FnC Tryz.prog 45 [.d (.st s), .d (.st [c])] (cutA (cutC c s)) := by
  have hi := indexL_ok s c
  refine FnC.intro ti_ok Tryz.func45 rfl Tryz.ntmps45 Tryz.call45 rfl (Nat.le_of_ble_eq_true rfl) rfl ?_
  rcases cutC_idx (c := c) s with ⟨h1, h2⟩ | ⟨h1, h2, h3⟩
  · rw [h2]
    rw [h1] at hi
    (repeat' ((conv=>whnf);first|with_reducible refine gA ?_|with_reducible refine CallI.inl ti_ok i85 rfl ?_ | ((with_reducible refine callE_id ?_); first | refine CallE.con ⟨_, hi, ?_⟩ | refine CallE.inl ?_)|(with_reducible first|refine gB ?_|refine gZ (fun x hx hu=>?_)|refine gY (fun x hx=>?_)|refine gE ?_|refine Both.mk ?_ ?_|refine gS (fun h=>?_) (fun h=>?_)|refine Spl.nt ?_|refine Spl.mk (fun h=>?_) (fun h=>?_))))
    rfl
  · rw [h3]
    generalize Lib.indexByte s c = q at *
    (repeat' ((conv=>whnf);first|with_reducible refine gA ?_|with_reducible refine CallI.inl ti_ok i85 rfl ?_ | ((with_reducible refine callE_id ?_); first | refine CallE.con ⟨_, hi, ?_⟩ | refine CallE.inl ?_)|(with_reducible first|refine gB ?_|refine gZ (fun x hx hu=>?_)|refine gY (fun x hx=>?_)|refine gE ?_|refine Both.mk ?_ ?_|refine gS (fun h=>?_) (fun h=>?_)|refine Spl.nt ?_|refine Spl.mk (fun h=>?_) (fun h=>?_))))
    all_goals first | (exfalso; omega) | skip
    show AV.tup [.d (.st (s.take q.toNat)), .d (.st (s.drop (q + 1).toNat)), .d (.bl true)] = AV.tup [.d (.st (s.take q.toNat)), .d (.st (s.drop (q.toNat + 1))), .d (.bl true)]
    rw [show (q + 1).toNat = q.toNat + 1 by omega]
theorem indexB_ok (s : List UInt8) (c : UInt8) : FnC Tryz.prog 81 [.d (.st s), .d (.it .u8 c.toNat)] (.d (.it .i64 (Lib.indexByte s c))) := by
  refine ⟨rfl, fun g w vs hfz hsz hav => .inl ⟨Tryz.call81 _ _, ?_⟩⟩
  have ha := hav 0 (by simp)
  have hb := hav 1 (by simp)
  rw [arr2 hsz]
  simp only [List.getElem_cons_zero, List.getElem_cons_succ] at ha hb
  generalize vs.getD 0 undef = a at ha
  generalize vs.getD 1 undef = b at hb
  cases hb with | d _ _ hb => ?_
  cases hb with | it => ?_
  cases ha with | d _ _ ha => ?_
  cases ha with | st => ?_
  refine (Tryz.strings_IndexByte ⟨s.toArray⟩ c.toNat w).mono ?_
  rintro e w' ⟨rfl, rfl⟩
  refine ⟨_, g, rfl, ?_, fun _ _ _ h => h, fun _ _ _ h => .inl h, hfz, Nat.le_refl _, fun _ _ => rfl, rfl, rfl, rfl⟩
  have : ((c.toNat : Int)).toNat.toUInt8 = c := by simp
  rw [this]
  exact .d _ _ (.it _ _)
theorem dig_ok (c : UInt8) : FnC Tryz.prog 81 [.d (.st hexD), .d (.it .u8 c.toNat)] (.d (.it .i64 (digI c))) := indexB_ok hexD c
theorem shl4 (a b : Int) (ha : 0 ≤ a ∧ a < 16) (hb : 0 ≤ b ∧ b < 16) : IntKind.i64.wrap ((BitVec.ofInt (IntKind.bits .i64) (16 * a) ||| BitVec.ofInt (IntKind.bits .i64) b).toNat : Int) = 16 * a + b := by
  have : ∀ x y : Fin 16, IntKind.i64.wrap ((BitVec.ofInt (IntKind.bits .i64) (16 * (x.val : Int)) ||| BitVec.ofInt (IntKind.bits .i64) (y.val : Int)).toNat : Int) = 16 * (x.val : Int) + (y.val : Int) := by decide +kernel
  have h := this ⟨a.toNat, by omega⟩ ⟨b.toNat, by omega⟩
  simp only [Int.toNat_of_nonneg ha.1, Int.toNat_of_nonneg hb.1] at h
  exact h
end Go.Proofs.YtijdbjjkfkjihaaGreatDoor

/- A byte of two digits. Conditions: none. -/
namespace Go.Proofs.YtijdbjjkfkjihaaGreatDoor
open Go.Sy
set_option maxRecDepth 100000
set_option linter.all false
theorem shl16 (a : Int) (h : 0 ≤ a ∧ a < 16) : IntKind.i64.wrap (a * 2 ^ (min (4 : Int).toNat (IntKind.bits .i64))) = 16 * a := by
  have : ∀ x : Fin 16, IntKind.i64.wrap ((x.val : Int) * 2 ^ (min (4 : Int).toNat (IntKind.bits .i64))) = 16 * (x.val : Int) := by decide +kernel
  have h := this ⟨a.toNat, by omega⟩
  simp only [Int.toNat_of_nonneg (show 0 ≤ a by omega)] at h
  exact h
theorem at_is {l : List UInt8} {n : Int} {x : UInt8} {K : UInt8 → Prop} (hx : l[n.toNat]? = some x) (h : K x) (h0 : 0 ≤ n ∧ n < l.length := by omega) : (0 ≤ n ∧ n < l.length) ∧ ∀ c, l[n.toNat]? = some c → K c := ⟨h0, fun c hc => by rw [hx] at hc; obtain rfl := Option.some.inj hc; exact h⟩
theorem pairS (s : List UInt8) (a b : UInt8) (h0 : s[(0 : Int).toNat]? = some a) (h1 : s[(1 : Int).toNat]? = some b) (hl : 2 ≤ s.length) (hs : s.length ≤ 1000000) :
    FnC Tryz.prog 35 [.d (.st s)] (if 0 ≤ digI a ∧ 0 ≤ digI b then .tup [.d (.it .u8 (UInt8.ofNat (16 * (digI a).toNat + (digI b).toNat)).toNat), .d (.bl !(plainB (UInt8.ofNat (16 * (digI a).toNat + (digI b).toNat))))] else .tup [.d (.it .u8 0), .d (.bl false)]) := by
  have ha := dig_ok a
  have hb := dig_ok b
  have la := dig_lt a
  have lb := dig_lt b
  by_cases hd : 0 ≤ digI a ∧ 0 ≤ digI b
  · rw [if_pos hd]
    have hp := plain_ok (UInt8.ofNat (16 * (digI a).toNat + (digI b).toNat))
    have hv : ((UInt8.ofNat (16 * (digI a).toNat + (digI b).toNat)).toNat : Int) = 16 * digI a + digI b := by
      rw [UInt8.toNat_ofNat']
      omega
    generalize UInt8.ofNat (16 * (digI a).toNat + (digI b).toNat) = v at *
    rw [hv] at hp ⊢
    generalize digI a = x at *
    generalize digI b = y at *
    refine FnC.intro ti_ok Tryz.func35 rfl Tryz.ntmps35 Tryz.call35 rfl (Nat.le_of_ble_eq_true rfl) rfl ?_
    (repeat' ((conv=>whnf);first|with_reducible refine gA ?_|with_reducible refine at_is h0 ?_ | with_reducible refine at_is h1 ?_ | refine CallP.mk ⟨_, ha, ?_⟩ | refine CallP.mk ⟨_, hb, ?_⟩ | ((with_reducible refine callE_id ?_); first | refine CallE.con ⟨_, ha, ?_⟩ | refine CallE.con ⟨_, hb, ?_⟩ | refine CallE.con ⟨_, hp, ?_⟩) | with_reducible refine LetI.eq (16 * x) (by with_unfolding_all exact shl16 x (by omega)) ?_ | with_reducible refine LetI.eq (16 * x + y) (by with_unfolding_all exact shl4 x y (by omega) (by omega)) ?_|(with_reducible first|refine gB ?_|refine gZ (fun x hx hu=>?_)|refine gY (fun x hx=>?_)|refine gE ?_|refine Both.mk ?_ ?_|refine gS (fun h=>?_) (fun h=>?_)|refine Spl.nt ?_|refine Spl.mk (fun h=>?_) (fun h=>?_))))
    all_goals rfl
  · rw [if_neg hd]
    refine FnC.intro ti_ok Tryz.func35 rfl Tryz.ntmps35 Tryz.call35 rfl (Nat.le_of_ble_eq_true rfl) rfl ?_
    (repeat' ((conv=>whnf);first|with_reducible refine gA ?_|with_reducible refine at_is h0 ?_ | with_reducible refine at_is h1 ?_ | refine CallP.mk ⟨_, ha, ?_⟩ | refine CallP.mk ⟨_, hb, ?_⟩ | ((with_reducible refine callE_id ?_); first | refine CallE.con ⟨_, ha, ?_⟩ | refine CallE.con ⟨_, hb, ?_⟩)|(with_reducible first|refine gB ?_|refine gZ (fun x hx hu=>?_)|refine gY (fun x hx=>?_)|refine gE ?_|refine Both.mk ?_ ?_|refine gS (fun h=>?_) (fun h=>?_)|refine Spl.nt ?_|refine Spl.mk (fun h=>?_) (fun h=>?_))))
    all_goals rfl
theorem pair_short (s : List UInt8) (hl : s.length < 2) : FnC Tryz.prog 35 [.d (.st s)] (.tup [.d (.it .u8 0), .d (.bl false)]) := by
  refine FnC.intro ti_ok Tryz.func35 rfl Tryz.ntmps35 Tryz.call35 rfl (Nat.le_of_ble_eq_true rfl) rfl ?_
  (repeat' ((conv=>whnf);first|with_reducible refine gA ?_|(with_reducible first|refine gB ?_|refine gZ (fun x hx hu=>?_)|refine gY (fun x hx=>?_)|refine gE ?_|refine Both.mk ?_ ?_|refine gS (fun h=>?_) (fun h=>?_)|refine Spl.nt ?_|refine Spl.mk (fun h=>?_) (fun h=>?_))))
  rfl
theorem pair_some {a b v : UInt8} {r : List UInt8} (h : pairV a b = some v) (hs : (a :: b :: r).length ≤ 1000000) : FnC Tryz.prog 35 [.d (.st (a :: b :: r))] (.tup [.d (.it .u8 v.toNat), .d (.bl true)]) := by
  have hp := pairS (a :: b :: r) a b rfl rfl (by simp) hs
  unfold pairV at h
  split at h
  · rename_i hd
    rw [if_pos hd] at hp
    split at h
    · cases h
    · rename_i hq
      obtain rfl := Option.some.inj h
      rw [Bool.eq_false_iff.2 hq] at hp
      exact hp
  · cases h
theorem pair_none {a b : UInt8} {r : List UInt8} (h : pairV a b = none) (hs : (a :: b :: r).length ≤ 1000000) : ∃ x : Nat, FnC Tryz.prog 35 [.d (.st (a :: b :: r))] (.tup [.d (.it .u8 x), .d (.bl false)]) := by
  have hp := pairS (a :: b :: r) a b rfl rfl (by simp) hs
  unfold pairV at h
  split at h
  · rename_i hd
    rw [if_pos hd] at hp
    split at h
    · rename_i hq
      rw [hq] at hp
      exact ⟨_, hp⟩
    · cases h
  · rename_i hd
    rw [if_neg hd] at hp
    exact ⟨0, hp⟩
end Go.Proofs.YtijdbjjkfkjihaaGreatDoor

/- Out of quotes. Conditions: none. -/
namespace Go.Proofs.YtijdbjjkfkjihaaGreatDoor
open Go.Sy
set_option maxRecDepth 100000
set_option linter.all false
def optV (o : Option (List UInt8)) : AV := .tup [.d (.st (o.getD [])), .d (.bl o.isSome)]
theorem unqO_eq (s : List UInt8) : unqO s = if s.head? = some 34 ∧ (s.drop 1).getLast? = some 34 then unqR (s.drop 1).dropLast else none := by
  unfold unqO
  match s with
  | [] => rfl
  | [c] => simp
  | c :: a :: r => simp [List.getLast?_cons_of_ne_nil]
def uqA (x : List UInt8 × List UInt8) : S := match x.1 with
  | [] => ⟨[(4, .d (.st x.2)), (7, .ptr 0 0)], [(0, .cells 2 [.d (.ot (.pointer none)), .nl 1]), (1, .tag 0 76)], 2⟩
  | c :: t => ⟨[(4, .d (.st x.2)), (7, .ptr 0 0)], [(0, .cells 2 [.ptr 0 0, .ts 1 (bytesD (c :: t)) 4]), (1, .tag 0 76), (4, .tail 5 true)], 5⟩
def uqI (mid : List UInt8) (x : List UInt8 × List UInt8) : Prop := unqR mid = (unqR x.2).map (x.1 ++ ·) ∧ x.1.length + x.2.length ≤ mid.length
theorem map_app (acc : List UInt8) (v : UInt8) (o : Option (List UInt8)) : (o.map (v :: ·)).map (acc ++ ·) = o.map ((acc ++ [v]) ++ ·) := by
  cases o with
  | none => rfl
  | some t => simp
theorem andg_id {a b : Int} {r : Prop} (h : (0 ≤ a ∧ a ≤ b) ∧ r) : (0 ≤ a ∧ a ≤ b) ∧ r := h
theorem cells_app {a : List UInt8} {x : UInt8} {l : List UInt8} (h : a ++ [x] = l) : Ob.cells 2 [.ptr 0 0, .ts 1 (bytesD a ++ [[D.it .u8 x.toNat]]) 4] = Ob.cells 2 [.ptr 0 0, .ts 1 (bytesD l) 4] := by rw [← h, bytesD_app]; rfl
theorem unquote_ok (s : List UInt8) (hs : s.length ≤ 100000) : FnC Tryz.prog 13 [.d (.st s)] (optV (unqO s)) := by
  have h1 := cutPC_ok 34 s
  rw [unqO_eq]
  by_cases ha : s.head? = some 34
  · rw [if_pos ha, decide_eq_true ha] at h1
    have h2 := cutSC_ok 34 (s.drop 1) (by rw [List.length_drop]; omega)
    by_cases hb : (s.drop 1).getLast? = some 34
    · rw [if_pos hb, decide_eq_true hb] at h2
      rw [if_pos ⟨ha, hb⟩]
      have hml : (s.drop 1).dropLast.length ≤ 100000 := by rw [List.length_dropLast, List.length_drop]; omega
      generalize (s.drop 1).dropLast = mid at h2 hml ⊢
      generalize s.drop 1 = s1 at h1 h2
      refine FnC.intro ti_ok Tryz.func13 rfl Tryz.ntmps13 Tryz.call13 rfl (Nat.le_of_ble_eq_true rfl) rfl ?_
      (repeat' ((conv=>whnf);first|with_reducible refine gA ?_|((with_reducible refine callE_id ?_); first | refine CallE.con ⟨_, h1, ?_⟩ | refine CallE.con ⟨_, h2, ?_⟩)|(with_reducible first|refine gB ?_|refine gZ (fun x hx hu=>?_)|refine gY (fun x hx=>?_)|refine gE ?_|refine Both.mk ?_ ?_|refine gS (fun h=>?_) (fun h=>?_)|refine Spl.nt ?_|refine Spl.mk (fun h=>?_) (fun h=>?_))))
      refine loop_rule ti_ok (uqI mid) uqA (fun x => x.2.length) ([], mid) ⟨by cases unqR mid <;> rfl, by simp⟩ ⟨And.intro rfl (And.intro rfl trivial), And.intro rfl (And.intro rfl trivial), rfl⟩ ?_
      intro ⟨acc, rest⟩ ⟨hI, hl⟩
      dsimp only at hI hl
      have hbl : (bytesD acc).length = acc.length := by simp [bytesD]
      match rest, hI, hl with
      | [], hI, hl =>
        rw [hI]
        rcases acc with _ | ⟨a0, t0⟩
        · (repeat' ((conv=>whnf);first|with_reducible refine gA ?_|with_reducible refine CallI.inl ti_ok i38 rfl ?_|(with_reducible first|refine gB ?_|refine gZ (fun x hx hu=>?_)|refine gY (fun x hx=>?_)|refine gE ?_|refine Both.mk ?_ ?_|refine gS (fun h=>?_) (fun h=>?_)|refine Spl.nt ?_|refine Spl.mk (fun h=>?_) (fun h=>?_))))
          rfl
        · (repeat' ((conv=>whnf);first|with_reducible refine gA ?_|with_reducible refine CallI.inl ti_ok i38 rfl ?_|(with_reducible first|refine gB ?_|refine gZ (fun x hx hu=>?_)|refine gY (fun x hx=>?_)|refine gE ?_|refine Both.mk ?_ ?_|refine gS (fun h=>?_) (fun h=>?_)|refine Spl.nt ?_|refine Spl.mk (fun h=>?_) (fun h=>?_))))
          refine ⟨a0 :: t0, ⟨rfl, ?_, ?_⟩, ?_⟩
          · show ((bytesD (a0 :: t0)).length : Int) = _; rw [hbl]
          · simp at hl ⊢; omega
          · show _ = AV.tup [.d (.st (a0 :: t0 ++ [])), _]
            rw [List.append_nil]; rfl
      | c :: r, hI, hl =>
        have hrl : (c :: r).length = r.length + 1 := rfl
        have hc0 : (c :: r)[(0 : Int).toNat]? = some c := rfl
        by_cases hc : c = 92
        · subst hc
          match r, hI, hl with
          | [], hI, hl =>
            rw [unqR_1] at hI
            rw [hI]
            have hp := pair_short [] (by simp)
            rcases acc with _ | ⟨a0, t0⟩
            all_goals (repeat' ((conv=>whnf);first|with_reducible refine gA ?_|with_reducible refine at_is hc0 ?_ | ((with_reducible refine callE_id ?_); refine CallE.con ⟨_, hp, ?_⟩)|(with_reducible first|refine gB ?_|refine gZ (fun x hx hu=>?_)|refine gY (fun x hx=>?_)|refine gE ?_|refine Both.mk ?_ ?_|refine gS (fun h=>?_) (fun h=>?_)|refine Spl.nt ?_|refine Spl.mk (fun h=>?_) (fun h=>?_))))
            all_goals rfl
          | [a], hI, hl =>
            rw [unqR_2] at hI
            rw [hI]
            have hp := pair_short [a] (by simp)
            rcases acc with _ | ⟨a0, t0⟩
            all_goals (repeat' ((conv=>whnf);first|with_reducible refine gA ?_|with_reducible refine at_is hc0 ?_ | ((with_reducible refine callE_id ?_); refine CallE.con ⟨_, hp, ?_⟩)|(with_reducible first|refine gB ?_|refine gZ (fun x hx hu=>?_)|refine gY (fun x hx=>?_)|refine gE ?_|refine Both.mk ?_ ?_|refine gS (fun h=>?_) (fun h=>?_)|refine Spl.nt ?_|refine Spl.mk (fun h=>?_) (fun h=>?_))))
            all_goals rfl
          | a :: b :: r', hI, hl =>
            rw [unqR_esc] at hI
            have hl3 : acc.length + (r'.length + 1 + 1 + 1) ≤ mid.length := hl
            have hll : (a :: b :: r').length = r'.length + 2 := rfl
            cases hv : pairV a b with
            | none =>
              rw [hv] at hI
              have hI : unqR mid = none := hI
              rw [hI]
              obtain ⟨x, hp⟩ := pair_none (r := r') hv (by omega)
              rcases acc with _ | ⟨a0, t0⟩
              all_goals (repeat' ((conv=>whnf);first|with_reducible refine gA ?_|with_reducible refine at_is hc0 ?_ | ((with_reducible refine callE_id ?_); refine CallE.con ⟨_, hp, ?_⟩)|(with_reducible first|refine gB ?_|refine gZ (fun x hx hu=>?_)|refine gY (fun x hx=>?_)|refine gE ?_|refine Both.mk ?_ ?_|refine gS (fun h=>?_) (fun h=>?_)|refine Spl.nt ?_|refine Spl.mk (fun h=>?_) (fun h=>?_))))
              all_goals rfl
            | some v =>
              rw [hv] at hI
              dsimp only at hI
              rw [map_app] at hI
              have hp := pair_some (r := r') hv (by omega)
              have hsl : (0 : Int) ≤ 2 ∧ (2 : Int) ≤ ((a :: b :: r').length : Int) := by omega
              rcases acc with _ | ⟨a0, t0⟩
              · (repeat' ((conv=>whnf);first|with_reducible refine gA ?_|with_reducible refine at_is hc0 ?_ | ((with_reducible refine andg_id ?_); refine And.intro hsl ?_) | ((with_reducible refine callE_id ?_); refine CallE.con ⟨_, hp, ?_⟩) | with_reducible refine CallI.inl ti_ok i37 rfl ?_ | with_reducible refine CallI.inl ti_ok i82 rfl ?_ | with_reducible refine CallI.ident noEsc (by with_unfolding_all exact rfl) ?_|(with_reducible first|refine gB ?_|refine gZ (fun x hx hu=>?_)|refine gY (fun x hx=>?_)|refine gE ?_|refine Both.mk ?_ ?_|refine gS (fun h=>?_) (fun h=>?_)|refine Spl.nt ?_|refine Spl.mk (fun h=>?_) (fun h=>?_))))
                have hI2 : uqI mid ([v], r') := ⟨hI, by show 1 + r'.length ≤ _; simp at hl3; omega⟩
                refine again ([v], r') hI2 (by dsimp only; omega) (And.intro rfl (And.intro rfl trivial)) (And.intro rfl (And.intro rfl (And.intro rfl trivial))) rfl
              · have hl4 : t0.length + 1 + (r'.length + 1 + 1 + 1) ≤ mid.length := hl3
                (repeat' ((conv=>whnf);first|with_reducible refine gA ?_|with_reducible refine at_is hc0 ?_ | ((with_reducible refine andg_id ?_); refine And.intro hsl ?_) | ((with_reducible refine callE_id ?_); refine CallE.con ⟨_, hp, ?_⟩) | with_reducible refine CallI.inl ti_ok i37 rfl ?_ | with_reducible refine CallI.inl ti_ok i82 rfl ?_ | with_reducible refine CallI.ident noEsc (by with_unfolding_all exact rfl) ?_|(with_reducible first|refine gB ?_|refine gZ (fun x hx hu=>?_)|refine gY (fun x hx=>?_)|refine gE ?_|refine Both.mk ?_ ?_|refine gS (fun h=>?_) (fun h=>?_)|refine Spl.nt ?_|refine Spl.mk (fun h=>?_) (fun h=>?_))))
                have hI2 : uqI mid (a0 :: t0 ++ [v], r') := ⟨hI, by show (a0 :: t0 ++ [v]).length + r'.length ≤ _; simp; omega⟩
                refine again (a0 :: t0 ++ [v], r') hI2 (by dsimp only; omega) (And.intro rfl (And.intro rfl trivial)) (And.intro (cells_app rfl) (And.intro rfl (And.intro rfl trivial))) rfl
        · rw [unqR_c r hc] at hI
          have hcn : c.toNat ≠ 92 := fun e => hc (UInt8.toNat_inj.1 e)
          have hp := plain_ok c
          by_cases hq : plainB c = true
          · rw [hq] at hp
            rw [if_pos hq, map_app] at hI
            have hl3 : acc.length + (r.length + 1) ≤ mid.length := hl
            rcases acc with _ | ⟨a0, t0⟩
            · (repeat' ((conv=>whnf);first|with_reducible refine gA ?_|with_reducible refine at_is hc0 ?_ | ((with_reducible refine callE_id ?_); refine CallE.con ⟨_, hp, ?_⟩) | with_reducible refine CallI.inl ti_ok i37 rfl ?_ | with_reducible refine CallI.inl ti_ok i82 rfl ?_ | with_reducible refine CallI.ident noEsc (by with_unfolding_all exact rfl) ?_|(with_reducible first|refine gB ?_|refine gZ (fun x hx hu=>?_)|refine gY (fun x hx=>?_)|refine gE ?_|refine Both.mk ?_ ?_|refine gS (fun h=>?_) (fun h=>?_)|refine Spl.nt ?_|refine Spl.mk (fun h=>?_) (fun h=>?_))))
              have hI2 : uqI mid ([c], r) := ⟨hI, by show 1 + r.length ≤ _; simp at hl3; omega⟩
              refine again ([c], r) hI2 (by dsimp only; omega) (And.intro rfl (And.intro rfl trivial)) (And.intro rfl (And.intro rfl (And.intro rfl trivial))) rfl
            · have hl4 : t0.length + 1 + (r.length + 1) ≤ mid.length := hl3
              (repeat' ((conv=>whnf);first|with_reducible refine gA ?_|with_reducible refine at_is hc0 ?_ | ((with_reducible refine callE_id ?_); refine CallE.con ⟨_, hp, ?_⟩) | with_reducible refine CallI.inl ti_ok i37 rfl ?_ | with_reducible refine CallI.inl ti_ok i82 rfl ?_ | with_reducible refine CallI.ident noEsc (by with_unfolding_all exact rfl) ?_|(with_reducible first|refine gB ?_|refine gZ (fun x hx hu=>?_)|refine gY (fun x hx=>?_)|refine gE ?_|refine Both.mk ?_ ?_|refine gS (fun h=>?_) (fun h=>?_)|refine Spl.nt ?_|refine Spl.mk (fun h=>?_) (fun h=>?_))))
              have hI2 : uqI mid (a0 :: t0 ++ [c], r) := ⟨hI, by show (a0 :: t0 ++ [c]).length + r.length ≤ _; simp; omega⟩
              refine again (a0 :: t0 ++ [c], r) hI2 (by dsimp only; omega) (And.intro rfl (And.intro rfl trivial)) (And.intro (cells_app rfl) (And.intro rfl (And.intro rfl trivial))) rfl
          · rw [Bool.eq_false_iff.2 hq] at hp
            rw [if_neg hq] at hI
            have hI : unqR mid = none := hI
            rw [hI]
            rcases acc with _ | ⟨a0, t0⟩
            all_goals (repeat' ((conv=>whnf);first|with_reducible refine gA ?_|with_reducible refine at_is hc0 ?_ | ((with_reducible refine callE_id ?_); refine CallE.con ⟨_, hp, ?_⟩)|(with_reducible first|refine gB ?_|refine gZ (fun x hx hu=>?_)|refine gY (fun x hx=>?_)|refine gE ?_|refine Both.mk ?_ ?_|refine gS (fun h=>?_) (fun h=>?_)|refine Spl.nt ?_|refine Spl.mk (fun h=>?_) (fun h=>?_))))
            all_goals rfl
    · rw [if_neg hb, decide_eq_false hb] at h2
      rw [if_neg fun q => hb q.2]
      generalize s.drop 1 = s1 at h1 h2
      refine FnC.intro ti_ok Tryz.func13 rfl Tryz.ntmps13 Tryz.call13 rfl (Nat.le_of_ble_eq_true rfl) rfl ?_
      (repeat' ((conv=>whnf);first|with_reducible refine gA ?_|((with_reducible refine callE_id ?_); first | refine CallE.con ⟨_, h1, ?_⟩ | refine CallE.con ⟨_, h2, ?_⟩)|(with_reducible first|refine gB ?_|refine gZ (fun x hx hu=>?_)|refine gY (fun x hx=>?_)|refine gE ?_|refine Both.mk ?_ ?_|refine gS (fun h=>?_) (fun h=>?_)|refine Spl.nt ?_|refine Spl.mk (fun h=>?_) (fun h=>?_))))
      rfl
  · rw [if_neg ha, decide_eq_false ha] at h1
    rw [if_neg fun q => ha q.1]
    have h2 := cutSC_ok 34 s (by omega)
    generalize (if s.getLast? = some 34 then s.dropLast else s) = s2 at h2
    refine FnC.intro ti_ok Tryz.func13 rfl Tryz.ntmps13 Tryz.call13 rfl (Nat.le_of_ble_eq_true rfl) rfl ?_
    (repeat' ((conv=>whnf);first|with_reducible refine gA ?_|((with_reducible refine callE_id ?_); first | refine CallE.con ⟨_, h1, ?_⟩ | refine CallE.con ⟨_, h2, ?_⟩)|(with_reducible first|refine gB ?_|refine gZ (fun x hx hu=>?_)|refine gY (fun x hx=>?_)|refine gE ?_|refine Both.mk ?_ ?_|refine gS (fun h=>?_) (fun h=>?_)|refine Spl.nt ?_|refine Spl.mk (fun h=>?_) (fun h=>?_))))
    rfl
end Go.Proofs.YtijdbjjkfkjihaaGreatDoor

/- The node of a line. Conditions: none. -/
namespace Go.Proofs.YtijdbjjkfkjihaaGreatDoor
open Go.Sy
set_option maxRecDepth 100000
set_option linter.all false
theorem cut_len {c : UInt8} {s p : List UInt8} {q : Option (List UInt8)} (h : cutC c s = (p, q)) : p.length ≤ s.length ∧ (q.getD []).length ≤ s.length := by
  cases q with
  | none => rw [cutC_none h]; exact ⟨Nat.le_refl _, Nat.zero_le _⟩
  | some q => rw [cutC_some h, List.length_append, List.length_cons]; exact ⟨by omega, by show q.length ≤ _; omega⟩
theorem unq_len {s t : List UInt8} (h : unqO s = some t) : t.length ≤ s.length := by
  have h := congrArg List.length (quote_unq h)
  have key : ∀ l : List UInt8, l.length ≤ (l.flatMap signQ).length := by
    intro l
    induction l with
    | nil => exact Nat.le_refl _
    | cons a l ih =>
      have : 1 ≤ (signQ a).length := by unfold signQ; split <;> simp
      rw [List.flatMap_cons, List.length_append, List.length_cons]; omega
  have := key t
  unfold quoteS at h
  rw [List.length_cons, List.length_append] at h
  omega
/-- The node that is built of a line. -/
def nodeY (s : List UInt8) : Nod := match (cutC 32 s).2 with
  | some q => ⟨(cutC 32 s).1, false, (unqO q).getD []⟩
  | none => ⟨if (cutC 32 s).1.getLast? = some 47 then (cutC 32 s).1.dropLast else (cutC 32 s).1, true, []⟩
theorem nodeY_eq {s : List UInt8} {x : Nod} (h : nodeO s = some x) : nodeY s = x := by
  unfold nodeO at h
  unfold nodeY
  rcases hc : cutC 32 s with ⟨p, q⟩
  rw [hc] at h
  cases q with
  | none =>
    dsimp only at h ⊢
    split at h
    · rename_i hp
      rw [if_pos hp.1]; exact Option.some.inj h
    · cases h
  | some q =>
    dsimp only at h ⊢
    cases hu : unqO q with
    | none => rw [hu] at h; cases h
    | some t =>
      rw [hu] at h
      dsimp only at h
      split at h
      · exact Option.some.inj h
      · cases h
theorem isS_if {α : Type} (b : Bool) (x : α) : b = (if b = true then some x else none).isSome := by cases b <;> rfl
theorem isS_if2 {α : Type} {p : Prop} [Decidable p] (hp : p) (b : Bool) (x : α) : b = (if p ∧ b = true then some x else none).isSome := by cases b <;> simp [hp]
theorem isS_if3 {α : Type} {p : Prop} [Decidable p] (hp : ¬ p) (b : Bool) (x : α) : (if p ∧ b = true then some x else none).isSome = false := by rw [if_neg fun q => hp q.1]; rfl
def ndT : Tr := (.cons 0 (.cons 1 (.cons 2 (.cons 3 (.cons 4 (.cons 5 (.cons 6 .nil .nil) .nil) (.cons 5 (.cons 4 (.cons 6 .nil .nil) .nil) .nil)) .nil) .nil) .nil) (.cons 1 (.cons 0 (.cons 2 (.cons 3 (.cons 4 (.cons 5 (.cons 6 .nil .nil) .nil) (.cons 5 (.cons 4 (.cons 6 .nil .nil) .nil) .nil)) .nil) .nil) (.cons 2 (.cons 0 (.cons 3 (.cons 4 (.cons 5 (.cons 6 .nil .nil) .nil) (.cons 5 (.cons 4 (.cons 6 .nil .nil) .nil) .nil)) .nil) (.cons 3 (.cons 0 (.cons 4 (.cons 5 (.cons 6 .nil .nil) .nil) (.cons 5 (.cons 4 (.cons 6 .nil .nil) .nil) .nil)) (.cons 4 (.cons 0 (.cons 5 (.cons 6 .nil .nil) .nil) .nil) .nil)) .nil)) .nil)) .nil))
theorem tupB {x : AV} {a b : Bool} (h : a = b) : AV.tup [x, .d (.bl a)] = AV.tup [x, .d (.bl b)] := by rw [h]
theorem node_ok (s : List UInt8) (hs : s.length ≤ 100000) : FnC Tryz.prog 46 [.d (.st s)] (.tup [.dg 3 (encN (nodeY s)), .d (.bl (nodeO s).isSome)]) := by
  have h1 := cutC_ok 32 s (by omega)
  unfold nodeY nodeO
  rcases hc : cutC 32 s with ⟨p, q⟩
  have hl := cut_len hc
  rw [hc] at h1
  cases q with
  | some q =>
    dsimp only
    have hq : q.length ≤ s.length := hl.2
    have h2 := unquote_ok q (by omega)
    cases hu : unqO q with
    | none =>
      rw [hu] at h2
      dsimp only [Option.getD_none, Option.isSome_none]
      refine FnC.intro ti_ok Tryz.func46 rfl Tryz.ntmps46 Tryz.call46 rfl (Nat.le_of_ble_eq_true rfl) rfl ?_
      (repeat' ((conv=>whnf);first|with_reducible refine gA ?_|((with_reducible refine callE_id ?_); first | refine CallE.con ⟨_, h1, ?_⟩ | refine CallE.con ⟨_, h2, ?_⟩) | with_reducible refine draw_htree ti_ok mixed [1] ndT (by decide +kernel) ?_ | with_reducible exact trivial | with_reducible refine Br.mk ?_ ?_|(with_reducible first|refine gB ?_|refine gZ (fun x hx hu=>?_)|refine gY (fun x hx=>?_)|refine gE ?_|refine Both.mk ?_ ?_|refine gS (fun h=>?_) (fun h=>?_)|refine Spl.nt ?_|refine Spl.mk (fun h=>?_) (fun h=>?_))))
      all_goals rfl
    | some t =>
      rw [hu] at h2
      dsimp only [Option.getD_some]
      have h3 := vmay_ok ⟨p, false, t⟩ (by dsimp only; omega)
      refine FnC.intro ti_ok Tryz.func46 rfl Tryz.ntmps46 Tryz.call46 rfl (Nat.le_of_ble_eq_true rfl) rfl ?_
      (repeat' ((conv=>whnf);first|with_reducible refine gA ?_|((with_reducible refine callE_id ?_); first | refine CallE.con ⟨_, h1, ?_⟩ | refine CallE.con ⟨_, h2, ?_⟩ | refine CallE.con ⟨_, h3, ?_⟩) | refine CallP.mk ⟨_, h3, ?_⟩ | with_reducible refine draw_htree ti_ok mixed [1] ndT (by decide +kernel) ?_ | with_reducible exact trivial | with_reducible refine Br.mk ?_ ?_|(with_reducible first|refine gB ?_|refine gZ (fun x hx hu=>?_)|refine gY (fun x hx=>?_)|refine gE ?_|refine Both.mk ?_ ?_|refine gS (fun h=>?_) (fun h=>?_)|refine Spl.nt ?_|refine Spl.mk (fun h=>?_) (fun h=>?_))))
      all_goals exact tupB (isS_if _ _)
  | none =>
    dsimp only
    have h2 := cutSC_ok 47 p (by omega)
    have hpl : (if p.getLast? = some 47 then p.dropLast else p).length ≤ p.length := by split <;> simp
    by_cases hp : p.getLast? = some 47
    · rw [if_pos hp, decide_eq_true hp] at h2
      rw [if_pos hp] at hpl ⊢
      have h3 := vmay_ok ⟨p.dropLast, true, []⟩ (by dsimp only; omega)
      refine FnC.intro ti_ok Tryz.func46 rfl Tryz.ntmps46 Tryz.call46 rfl (Nat.le_of_ble_eq_true rfl) rfl ?_
      (repeat' ((conv=>whnf);first|with_reducible refine gA ?_|((with_reducible refine callE_id ?_); first | refine CallE.con ⟨_, h1, ?_⟩ | refine CallE.con ⟨_, h2, ?_⟩ | refine CallE.con ⟨_, h3, ?_⟩) | refine CallP.mk ⟨_, h3, ?_⟩ | with_reducible refine draw_htree ti_ok mixed [1] ndT (by decide +kernel) ?_ | with_reducible exact trivial | with_reducible refine Br.mk ?_ ?_|(with_reducible first|refine gB ?_|refine gZ (fun x hx hu=>?_)|refine gY (fun x hx=>?_)|refine gE ?_|refine Both.mk ?_ ?_|refine gS (fun h=>?_) (fun h=>?_)|refine Spl.nt ?_|refine Spl.mk (fun h=>?_) (fun h=>?_))))
      all_goals exact tupB (isS_if2 hp _ _)
    · rw [if_neg hp, decide_eq_false hp] at h2
      rw [if_neg hp] at hpl ⊢
      refine FnC.intro ti_ok Tryz.func46 rfl Tryz.ntmps46 Tryz.call46 rfl (Nat.le_of_ble_eq_true rfl) rfl ?_
      (repeat' ((conv=>whnf);first|with_reducible refine gA ?_|((with_reducible refine callE_id ?_); first | refine CallE.con ⟨_, h1, ?_⟩ | refine CallE.con ⟨_, h2, ?_⟩) | with_reducible refine draw_htree ti_ok mixed [1] ndT (by decide +kernel) ?_ | with_reducible exact trivial | with_reducible refine Br.mk ?_ ?_|(with_reducible first|refine gB ?_|refine gZ (fun x hx hu=>?_)|refine gY (fun x hx=>?_)|refine gE ?_|refine Both.mk ?_ ?_|refine gS (fun h=>?_) (fun h=>?_)|refine Spl.nt ?_|refine Spl.mk (fun h=>?_) (fun h=>?_))))
      all_goals exact tupB (isS_if3 hp _ _).symm
end Go.Proofs.YtijdbjjkfkjihaaGreatDoor

/- A text as nodes; nodes as text. Conditions: none. -/
namespace Go.Proofs.YtijdbjjkfkjihaaGreatDoor
open Go.Sy
set_option maxRecDepth 100000
set_option linter.all false
def readA (o : Option (List Nod)) : AV := .tup [.d (.fs 3 ((o.getD []).map encN)), .d (.bl o.isSome)]
def rdI (s : List UInt8) (x : List Nod × List UInt8) : Prop := readN s = (readN x.2).map (x.1 ++ ·) ∧ x.1.length + x.2.length ≤ s.length
def rdSt (x : List Nod × List UInt8) : S := ⟨[(0, .d (.st x.2)), (4, .ts 3 (x.1.map encN) 1)], [(1, .tail 35 true)], 2⟩
theorem map_appN (acc : List Nod) (v : Nod) (o : Option (List Nod)) : (o.map (v :: ·)).map (acc ++ ·) = o.map ((acc ++ [v]) ++ ·) := by
  cases o with
  | none => rfl
  | some t => simp
theorem tsN {a b : List (List D)} {n : Nat} (h : a = b) : AV.ts 3 a n = AV.ts 3 b n := by rw [h]
theorem vread_ok (s : List UInt8) (hs : s.length ≤ 100000) : FnC Tryz.prog 17 [.d (.st s)] (readA (readN s)) := by
  refine FnC.intro ti_ok Tryz.func17 rfl Tryz.ntmps17 Tryz.call17 rfl (Nat.le_of_ble_eq_true rfl) rfl ?_
  (repeat' ((conv=>whnf);first|with_reducible refine gA ?_|(with_reducible first|refine gB ?_|refine gZ (fun x hx hu=>?_)|refine gY (fun x hx=>?_)|refine gE ?_|refine Both.mk ?_ ?_|refine gS (fun h=>?_) (fun h=>?_)|refine Spl.nt ?_|refine Spl.mk (fun h=>?_) (fun h=>?_))))
  refine loop_rule ti_ok (rdI s) rdSt (fun x => x.2.length) ([], s) ⟨by cases readN s <;> rfl, by simp⟩ ⟨And.intro rfl (And.intro rfl trivial), And.intro rfl trivial, rfl⟩ ?_
  intro ⟨acc, r⟩ ⟨hI, hl⟩
  dsimp only at hI hl
  have hal : (acc.map encN).length = acc.length := List.length_map ..
  match r, hI, hl with
  | [], hI, hl =>
    rw [hI]
    (repeat' ((conv=>whnf);first|with_reducible refine gA ?_|(with_reducible first|refine gB ?_|refine gZ (fun x hx hu=>?_)|refine gY (fun x hx=>?_)|refine gE ?_|refine Both.mk ?_ ?_|refine gS (fun h=>?_) (fun h=>?_)|refine Spl.nt ?_|refine Spl.mk (fun h=>?_) (fun h=>?_))))
    show _ = AV.tup [.d (.fs 3 ((acc ++ []).map encN)), .d (.bl true)]
    rw [List.append_nil]
  | c :: t, hI, hl =>
    have h1 := cutC_ok 10 (c :: t) (by omega)
    rcases hc : cutC 10 (c :: t) with ⟨line, rest⟩
    have hcl := cut_len hc
    rw [hc] at h1
    have h2 := node_ok line (by omega)
    cases rest with
    | none =>
      rw [readN_none (by simp) hc] at hI
      have hI : readN s = none := hI
      rw [hI]
      cases hn : (nodeO line).isSome with
      | false =>
        rw [hn] at h2
        (repeat' ((conv=>whnf);first|with_reducible refine gA ?_|((with_reducible refine callE_id ?_); first | refine CallE.con ⟨_, h1, ?_⟩ | refine CallE.con ⟨_, h2, ?_⟩)|(with_reducible first|refine gB ?_|refine gZ (fun x hx hu=>?_)|refine gY (fun x hx=>?_)|refine gE ?_|refine Both.mk ?_ ?_|refine gS (fun h=>?_) (fun h=>?_)|refine Spl.nt ?_|refine Spl.mk (fun h=>?_) (fun h=>?_))))
        rfl
      | true =>
        rw [hn] at h2
        (repeat' ((conv=>whnf);first|with_reducible refine gA ?_|((with_reducible refine callE_id ?_); first | refine CallE.con ⟨_, h1, ?_⟩ | refine CallE.con ⟨_, h2, ?_⟩)|(with_reducible first|refine gB ?_|refine gZ (fun x hx hu=>?_)|refine gY (fun x hx=>?_)|refine gE ?_|refine Both.mk ?_ ?_|refine gS (fun h=>?_) (fun h=>?_)|refine Spl.nt ?_|refine Spl.mk (fun h=>?_) (fun h=>?_))))
        rfl
    | some rest =>
      rw [readN_some hc] at hI
      have hcs := congrArg List.length (cutC_some hc)
      rw [List.length_append, List.length_cons, List.length_cons] at hcs
      have hl2 : acc.length + (t.length + 1) ≤ s.length := hl
      cases hn : nodeO line with
      | none =>
        rw [hn] at h2 hI
        have hI : readN s = none := hI
        rw [hI]
        (repeat' ((conv=>whnf);first|with_reducible refine gA ?_|((with_reducible refine callE_id ?_); first | refine CallE.con ⟨_, h1, ?_⟩ | refine CallE.con ⟨_, h2, ?_⟩)|(with_reducible first|refine gB ?_|refine gZ (fun x hx hu=>?_)|refine gY (fun x hx=>?_)|refine gE ?_|refine Both.mk ?_ ?_|refine gS (fun h=>?_) (fun h=>?_)|refine Spl.nt ?_|refine Spl.mk (fun h=>?_) (fun h=>?_))))
        rfl
      | some x =>
        have hy := nodeY_eq hn
        rw [hn, hy] at h2
        rw [hn] at hI
        dsimp only at hI
        rw [map_appN] at hI
        (repeat' ((conv=>whnf);first|with_reducible refine gA ?_|((with_reducible refine callE_id ?_); first | refine CallE.con ⟨_, h1, ?_⟩ | refine CallE.con ⟨_, h2, ?_⟩)|(with_reducible first|refine gB ?_|refine gZ (fun x hx hu=>?_)|refine gY (fun x hx=>?_)|refine gE ?_|refine Both.mk ?_ ?_|refine gS (fun h=>?_) (fun h=>?_)|refine Spl.nt ?_|refine Spl.mk (fun h=>?_) (fun h=>?_))))
        have hI2 : rdI s (acc ++ [x], rest) := ⟨hI, by show (acc ++ [x]).length + rest.length ≤ _; rw [List.length_append, List.length_singleton]; omega⟩
        refine again (acc ++ [x], rest) hI2 (by show rest.length < t.length + 1; omega) (And.intro rfl (And.intro (tsN (by rw [List.map_append]; rfl)) trivial)) (And.intro rfl trivial) rfl
def okN (l : List Nod) : Prop := ∀ x ∈ l, x.p.length ≤ 1000 ∧ x.x.length ≤ 1000
theorem quoteS_len (s : List UInt8) : (quoteS s).length ≤ 3 * s.length + 2 := by
  have h := qAcc_len s s.length
  unfold qAcc at h
  rw [List.take_length, List.length_cons] at h
  unfold quoteS
  rw [List.length_cons, List.length_append, List.length_singleton]; omega
theorem vline_len {x : Nod} (h : x.p.length ≤ 1000 ∧ x.x.length ≤ 1000) : (vline x).length ≤ 4004 := by
  have := quoteS_len x.x
  unfold vline
  split <;> simp only [List.length_append, List.length_cons, List.length_nil] <;> omega
theorem showN_len : ∀ {l : List Nod}, okN l → (showN l).length ≤ 4004 * l.length
  | [], _ => by simp [showN]
  | x :: l, h => by
    have h1 := vline_len (h x List.mem_cons_self)
    have h2 := showN_len (l := l) fun y hy => h y (List.mem_cons_of_mem _ hy)
    show (vline x ++ showN l).length ≤ _
    rw [List.length_append, List.length_cons]; omega
theorem showN_take {l : List Nod} {k : Nat} {c : Nod} (h : l[k]? = some c) : showN (l.take (k + 1)) = showN (l.take k) ++ vline c := by
  unfold showN; rw [take_snoc h, List.flatMap_append]; simp
def showV (l : List Nod) : AV := .tup [.d (.st (if l.all mayB = true then showN l else [])), .d (.bl (l.all mayB))]
def swB (l : List Nod) (k : Nat) : List (Nat × AV) := [(4, .ptr 0 0), (7, .d (.fs 3 (l.map encN))), (8, .d (.it .i64 l.length)), (9, .d (.it .i64 k))]
def swA (l : List Nod) : Nat → S
  | 0 => ⟨swB l 0, [(0, .cells 2 [.d (.ot (.pointer none)), .nl 1]), (1, .tag 0 76)], 2⟩
  | k + 1 => ⟨swB l (k + 1), [(0, .cells 2 [.ptr 0 0, .ts 1 (bytesD (showN (l.take (k + 1)))) 6]), (1, .tag 0 76), (6, .tail 5 true)], 7⟩
theorem cells_s0 {x y : List UInt8} (h : x = y) : Ob.cells 2 [.ptr 0 0, .ts 1 (bytesD x) 6] = Ob.cells 2 [.ptr 0 0, .ts 1 (bytesD y) 6] := by rw [h]
theorem cells_s1 {x y z : List UInt8} (h : x ++ y = z) : Ob.cells 2 [.ptr 0 0, .ts 1 (bytesD x ++ bytesD y) 6] = Ob.cells 2 [.ptr 0 0, .ts 1 (bytesD z) 6] := by rw [← h, bytesD_app]
theorem vshow_ok (l : List Nod) (ho : okN l) (hl4 : l.length ≤ 1000) : FnC Tryz.prog 15 [.d (.fs 3 (l.map encN))] (showV l) := by
  refine FnC.intro ti_ok Tryz.func15 rfl Tryz.ntmps15 Tryz.call15 rfl (Nat.le_of_ble_eq_true rfl) rfl ?_
  have hl' : ((l.map encN).length : Int) = l.length := by rw [List.length_map]
  (repeat' ((conv=>whnf);first|with_reducible refine gA ?_|(with_reducible first|refine gB ?_|refine gZ (fun x hx hu=>?_)|refine gY (fun x hx=>?_)|refine gE ?_|refine Both.mk ?_ ?_|refine gS (fun h=>?_) (fun h=>?_)|refine Spl.nt ?_|refine Spl.mk (fun h=>?_) (fun h=>?_))))
  refine loop_rule ti_ok (fun k : Nat => k ≤ l.length ∧ (l.take k).all mayB = true) (swA l) (fun k => l.length - k) 0 ⟨Nat.zero_le _, rfl⟩ ⟨And.intro rfl (And.intro rfl (And.intro (it_eq hl') (And.intro rfl trivial))), And.intro rfl (And.intro rfl trivial), rfl⟩ ?_
  intro k ⟨k1, k2⟩
  have hs := showN_len (l := l.take k) fun x hx => ho x (List.mem_of_mem_take hx)
  have htl : (l.take k).length ≤ k := List.length_take_le ..
  rcases Nat.lt_or_ge k l.length with hkl | hkl
  · obtain ⟨c, hc⟩ := lt_get hkl
    have hcb := ho c (List.mem_of_getElem? hc)
    have hm := vmay_ok c (by omega)
    have hq := quote_ok c.x (by omega)
    have hql := quoteS_len c.x
    have e0 := showN_take hc
    by_cases hb : mayB c = true
    · rw [hb] at hm
      have k3 : (l.take (k + 1)).all mayB = true := by rw [all_snocX hc, k2, hb]; rfl
      obtain ⟨p, d, x⟩ := c
      dsimp only at hcb hq hql
      cases d with
      | true =>
        match k with
        | 0 =>
          (repeat' ((conv=>whnf);first|with_reducible refine gA ?_|with_reducible refine at_known hc ?_ | ((with_reducible refine callE_id ?_); first | refine CallE.con ⟨_, hm, ?_⟩ | refine CallE.con ⟨_, hq, ?_⟩) | refine CallP.mk ⟨_, hq, ?_⟩ | with_reducible refine CallI.inl ti_ok i42 rfl ?_ | with_reducible refine CallI.inl ti_ok i82 rfl ?_ | with_reducible refine CallI.ident noEsc (by with_unfolding_all exact rfl) ?_ | with_reducible refine CallI.inl ti_ok i38 rfl ?_|(with_reducible first|refine gB ?_|refine gZ (fun x hx hu=>?_)|refine gY (fun x hx=>?_)|refine gE ?_|refine Both.mk ?_ ?_|refine gS (fun h=>?_) (fun h=>?_)|refine Spl.nt ?_|refine Spl.mk (fun h=>?_) (fun h=>?_))))
          refine again (0 + 1) ⟨by omega, k3⟩ (by dsimp only; omega) (And.intro rfl (And.intro rfl (And.intro rfl (And.intro rfl trivial)))) (And.intro (cells_s0 ?_) (And.intro rfl (And.intro rfl trivial))) rfl
          rw [e0]; show _ = [] ++ vline _
          simp [vline]
        | k + 1 =>
          have hbl : (bytesD (showN (l.take (k + 1)))).length = (showN (l.take (k + 1))).length := by simp [bytesD]
          (repeat' ((conv=>whnf);first|with_reducible refine gA ?_|with_reducible refine at_known hc ?_ | ((with_reducible refine callE_id ?_); first | refine CallE.con ⟨_, hm, ?_⟩ | refine CallE.con ⟨_, hq, ?_⟩) | refine CallP.mk ⟨_, hq, ?_⟩ | with_reducible refine CallI.inl ti_ok i42 rfl ?_ | with_reducible refine CallI.inl ti_ok i82 rfl ?_ | with_reducible refine CallI.ident noEsc (by with_unfolding_all exact rfl) ?_ | with_reducible refine CallI.inl ti_ok i38 rfl ?_|(with_reducible first|refine gB ?_|refine gZ (fun x hx hu=>?_)|refine gY (fun x hx=>?_)|refine gE ?_|refine Both.mk ?_ ?_|refine gS (fun h=>?_) (fun h=>?_)|refine Spl.nt ?_|refine Spl.mk (fun h=>?_) (fun h=>?_))))
          refine again (k + 1 + 1) ⟨by omega, k3⟩ (by dsimp only; omega) (And.intro rfl (And.intro rfl (And.intro rfl (And.intro rfl trivial)))) (And.intro (cells_s1 ?_) (And.intro rfl (And.intro rfl trivial))) rfl
          rw [e0]; refine congrArg _ ?_
          simp [vline]
      | false =>
        match k with
        | 0 =>
          (repeat' ((conv=>whnf);first|with_reducible refine gA ?_|with_reducible refine at_known hc ?_ | ((with_reducible refine callE_id ?_); first | refine CallE.con ⟨_, hm, ?_⟩ | refine CallE.con ⟨_, hq, ?_⟩) | refine CallP.mk ⟨_, hq, ?_⟩ | with_reducible refine CallI.inl ti_ok i42 rfl ?_ | with_reducible refine CallI.inl ti_ok i82 rfl ?_ | with_reducible refine CallI.ident noEsc (by with_unfolding_all exact rfl) ?_ | with_reducible refine CallI.inl ti_ok i38 rfl ?_|(with_reducible first|refine gB ?_|refine gZ (fun x hx hu=>?_)|refine gY (fun x hx=>?_)|refine gE ?_|refine Both.mk ?_ ?_|refine gS (fun h=>?_) (fun h=>?_)|refine Spl.nt ?_|refine Spl.mk (fun h=>?_) (fun h=>?_))))
          refine again (0 + 1) ⟨by omega, k3⟩ (by dsimp only; omega) (And.intro rfl (And.intro rfl (And.intro rfl (And.intro rfl trivial)))) (And.intro (cells_s0 ?_) (And.intro rfl (And.intro rfl trivial))) rfl
          rw [e0]; show _ = [] ++ vline _
          simp [vline]
        | k + 1 =>
          have hbl : (bytesD (showN (l.take (k + 1)))).length = (showN (l.take (k + 1))).length := by simp [bytesD]
          (repeat' ((conv=>whnf);first|with_reducible refine gA ?_|with_reducible refine at_known hc ?_ | ((with_reducible refine callE_id ?_); first | refine CallE.con ⟨_, hm, ?_⟩ | refine CallE.con ⟨_, hq, ?_⟩) | refine CallP.mk ⟨_, hq, ?_⟩ | with_reducible refine CallI.inl ti_ok i42 rfl ?_ | with_reducible refine CallI.inl ti_ok i82 rfl ?_ | with_reducible refine CallI.ident noEsc (by with_unfolding_all exact rfl) ?_ | with_reducible refine CallI.inl ti_ok i38 rfl ?_|(with_reducible first|refine gB ?_|refine gZ (fun x hx hu=>?_)|refine gY (fun x hx=>?_)|refine gE ?_|refine Both.mk ?_ ?_|refine gS (fun h=>?_) (fun h=>?_)|refine Spl.nt ?_|refine Spl.mk (fun h=>?_) (fun h=>?_))))
          refine again (k + 1 + 1) ⟨by omega, k3⟩ (by dsimp only; omega) (And.intro rfl (And.intro rfl (And.intro rfl (And.intro rfl trivial)))) (And.intro (cells_s1 ?_) (And.intro rfl (And.intro rfl trivial))) rfl
          rw [e0]; refine congrArg _ ?_
          simp [vline]
    · rw [Bool.eq_false_iff.2 hb] at hm
      have hbad : l.all mayB = false := not_allX hc (Bool.eq_false_iff.2 hb)
      unfold showV
      rw [hbad]
      match k with
      | 0 =>
        (repeat' ((conv=>whnf);first|with_reducible refine gA ?_|with_reducible refine at_known hc ?_ | ((with_reducible refine callE_id ?_); first | refine CallE.con ⟨_, hm, ?_⟩ | refine CallE.con ⟨_, hq, ?_⟩) | refine CallP.mk ⟨_, hq, ?_⟩ | with_reducible refine CallI.inl ti_ok i42 rfl ?_ | with_reducible refine CallI.inl ti_ok i82 rfl ?_ | with_reducible refine CallI.ident noEsc (by with_unfolding_all exact rfl) ?_ | with_reducible refine CallI.inl ti_ok i38 rfl ?_|(with_reducible first|refine gB ?_|refine gZ (fun x hx hu=>?_)|refine gY (fun x hx=>?_)|refine gE ?_|refine Both.mk ?_ ?_|refine gS (fun h=>?_) (fun h=>?_)|refine Spl.nt ?_|refine Spl.mk (fun h=>?_) (fun h=>?_))))
        rfl
      | k + 1 =>
        (repeat' ((conv=>whnf);first|with_reducible refine gA ?_|with_reducible refine at_known hc ?_ | ((with_reducible refine callE_id ?_); first | refine CallE.con ⟨_, hm, ?_⟩ | refine CallE.con ⟨_, hq, ?_⟩) | refine CallP.mk ⟨_, hq, ?_⟩ | with_reducible refine CallI.inl ti_ok i42 rfl ?_ | with_reducible refine CallI.inl ti_ok i82 rfl ?_ | with_reducible refine CallI.ident noEsc (by with_unfolding_all exact rfl) ?_ | with_reducible refine CallI.inl ti_ok i38 rfl ?_|(with_reducible first|refine gB ?_|refine gZ (fun x hx hu=>?_)|refine gY (fun x hx=>?_)|refine gE ?_|refine Both.mk ?_ ?_|refine gS (fun h=>?_) (fun h=>?_)|refine Spl.nt ?_|refine Spl.mk (fun h=>?_) (fun h=>?_))))
        rfl
  · have hkl2 : l.take k = l := List.take_of_length_le (by omega)
    rw [hkl2] at k2 hs
    unfold showV
    rw [k2]
    match k with
    | 0 =>
      have hl0 : l = [] := List.length_eq_zero_iff.1 (by omega)
      subst hl0
      (repeat' ((conv=>whnf);first|with_reducible refine gA ?_|with_reducible refine CallI.inl ti_ok i42 rfl ?_ | with_reducible refine CallI.inl ti_ok i82 rfl ?_ | with_reducible refine CallI.ident noEsc (by with_unfolding_all exact rfl) ?_ | with_reducible refine CallI.inl ti_ok i38 rfl ?_|(with_reducible first|refine gB ?_|refine gZ (fun x hx hu=>?_)|refine gY (fun x hx=>?_)|refine gE ?_|refine Both.mk ?_ ?_|refine gS (fun h=>?_) (fun h=>?_)|refine Spl.nt ?_|refine Spl.mk (fun h=>?_) (fun h=>?_))))
      rfl
    | k + 1 =>
      (repeat' ((conv=>whnf);first|with_reducible refine gA ?_|with_reducible refine CallI.inl ti_ok i42 rfl ?_ | with_reducible refine CallI.inl ti_ok i82 rfl ?_ | with_reducible refine CallI.ident noEsc (by with_unfolding_all exact rfl) ?_ | with_reducible refine CallI.inl ti_ok i38 rfl ?_|(with_reducible first|refine gB ?_|refine gZ (fun x hx hu=>?_)|refine gY (fun x hx=>?_)|refine gE ?_|refine Both.mk ?_ ?_|refine gS (fun h=>?_) (fun h=>?_)|refine Spl.nt ?_|refine Spl.mk (fun h=>?_) (fun h=>?_))))
      have hbl : (bytesD (showN l)).length = (showN l).length := by simp [bytesD]
      refine ⟨showN l, ⟨?_, ?_, ?_⟩, rfl⟩
      · show bytesD (showN (l.take (k + 1))) = _; rw [hkl2]
      · show ((bytesD (showN (l.take (k + 1)))).length : Int) = _; rw [hkl2, hbl]
      · omega
end Go.Proofs.YtijdbjjkfkjihaaGreatDoor

/- Texts in quotes, by the document's answer. Conditions: none. -/
namespace Go.Proofs.YtijdbjjkfkjihaaGreatDoor
open Go.Sy
set_option maxRecDepth 100000
set_option linter.all false
theorem div16 (x : UInt8) : IntKind.u8.wrap (Int.tdiv (x.toNat : Int) 16) = ((x.toNat / 16 : Nat) : Int) := by
  have : ∀ n : Fin 256, IntKind.u8.wrap (Int.tdiv (n.val : Int) 16) = ((n.val / 16 : Nat) : Int) := by decide +kernel
  exact this ⟨x.toNat, x.toNat_lt⟩
theorem mod16 (x : UInt8) : Int.tmod (x.toNat : Int) 16 = ((x.toNat % 16 : Nat) : Int) := by
  have : ∀ n : Fin 256, Int.tmod (n.val : Int) 16 = ((n.val % 16 : Nat) : Int) := by decide +kernel
  exact this ⟨x.toNat, x.toNat_lt⟩
theorem sign_ok (c : UInt8) : FnC Tryz.prog 40 [.d (.it .u8 c.toNat)] (.d (.st (signQ c))) := by
  have hu := c.toNat_lt
  refine FnC.intro ti_ok Tryz.func40 rfl Tryz.ntmps40 Tryz.call40 rfl (Nat.le_of_ble_eq_true rfl) rfl ?_
  by_cases hp : plainB c = true
  · have h := of_decide_eq_true hp
    rw [show signQ c = [c] from if_pos hp]
    (repeat' ((conv=>whnf);first|with_reducible refine gA ?_|(with_reducible first|refine gB ?_|refine gZ (fun x hx hu=>?_)|refine gY (fun x hx=>?_)|refine gE ?_|refine Both.mk ?_ ?_|refine gS (fun h=>?_) (fun h=>?_)|refine Spl.nt ?_|refine Spl.mk (fun h=>?_) (fun h=>?_))))
    exact ⟨[c], rfl, rfl⟩
  · have h : ¬ (32 ≤ c.toNat ∧ c.toNat ≤ 126 ∧ c.toNat ≠ 34 ∧ c.toNat ≠ 92) := fun q => hp (decide_eq_true q)
    rw [show signQ c = [92, hexD.getD (c.toNat / 16) 0, hexD.getD (c.toNat % 16) 0] from if_neg hp]
    (repeat' ((conv=>whnf);first|with_reducible refine gA ?_|with_reducible refine fun (z : UInt8) hz => ?_ | with_reducible refine LetI.eq ((c.toNat / 16 : Nat) : Int) (by with_unfolding_all exact div16 c) ?_ | with_reducible refine LetI.eq ((c.toNat % 16 : Nat) : Int) (by with_unfolding_all exact mod16 c) ?_|(with_reducible first|refine gB ?_|refine gZ (fun x hx hu=>?_)|refine gY (fun x hx=>?_)|refine gE ?_|refine Both.mk ?_ ?_|refine gS (fun h=>?_) (fun h=>?_)|refine Spl.nt ?_|refine Spl.mk (fun h=>?_) (fun h=>?_))))
    all_goals
      rename_i z1 h1
      refine ⟨[92, z1, z], rfl, ?_⟩
      rw [hex_at h1, hex_at hz]; rfl
theorem dig_val : ∀ c : UInt8, (48 ≤ c.toNat ∧ c.toNat ≤ 57 → digI c = c.toNat - 48) ∧ (97 ≤ c.toNat ∧ c.toNat ≤ 102 → digI c = c.toNat - 97 + 10) ∧ (¬ (48 ≤ c.toNat ∧ c.toNat ≤ 57) → ¬ (97 ≤ c.toNat ∧ c.toNat ≤ 102) → digI c = -1) := by
  have h : ∀ n : Fin 256, (48 ≤ (UInt8.ofNat n).toNat ∧ (UInt8.ofNat n).toNat ≤ 57 → digI (UInt8.ofNat n) = (UInt8.ofNat n).toNat - 48) ∧ (97 ≤ (UInt8.ofNat n).toNat ∧ (UInt8.ofNat n).toNat ≤ 102 → digI (UInt8.ofNat n) = (UInt8.ofNat n).toNat - 97 + 10) ∧ (¬ (48 ≤ (UInt8.ofNat n).toNat ∧ (UInt8.ofNat n).toNat ≤ 57) → ¬ (97 ≤ (UInt8.ofNat n).toNat ∧ (UInt8.ofNat n).toNat ≤ 102) → digI (UInt8.ofNat n) = -1) := by decide +kernel
  intro c
  have := h ⟨c.toNat, c.toNat_lt⟩
  rwa [UInt8.ofNat_toNat] at this
def valV (c : UInt8) : Int := if 0 ≤ digI c then digI c else 0
theorem value_ok (c : UInt8) : FnC Tryz.prog 39 [.d (.it .u8 c.toNat)] (.d (.it .u8 (valV c))) := by
  have hu := c.toNat_lt
  have hd := dig_val c
  refine FnC.intro ti_ok Tryz.func39 rfl Tryz.ntmps39 Tryz.call39 rfl (Nat.le_of_ble_eq_true rfl) rfl ?_
  (repeat' ((conv=>whnf);first|with_reducible refine gA ?_|(with_reducible first|refine gB ?_|refine gZ (fun x hx hu=>?_)|refine gY (fun x hx=>?_)|refine gE ?_|refine Both.mk ?_ ?_|refine gS (fun h=>?_) (fun h=>?_)|refine Spl.nt ?_|refine Spl.mk (fun h=>?_) (fun h=>?_))))
  all_goals refine it_eq ?_
  all_goals unfold valV
  · have := hd.1 (by omega)
    rw [if_pos (by omega)]; omega
  · have := hd.2.1 (by omega)
    rw [if_pos (by omega)]; omega
  all_goals
    have := hd.2.2 (by omega) (by omega)
    rw [if_neg (by omega)]
theorem rquote_ok (s : List UInt8) (hs : s.length ≤ 100000) : FnC Tryz.prog 20 [.d (.st s)] (.d (.st (quoteS s))) := by
  refine FnC.intro ti_ok Tryz.func20 rfl Tryz.ntmps20 Tryz.call20 rfl (Nat.le_of_ble_eq_true rfl) rfl ?_
  (repeat' ((conv=>whnf);first|with_reducible refine gA ?_|(with_reducible first|refine gB ?_|refine gZ (fun x hx hu=>?_)|refine gY (fun x hx=>?_)|refine gE ?_|refine Both.mk ?_ ?_|refine gS (fun h=>?_) (fun h=>?_)|refine Spl.nt ?_|refine Spl.mk (fun h=>?_) (fun h=>?_))))
  refine loop_rule ti_ok (fun k : Nat => k ≤ s.length) (fun k : Nat => ⟨[(0, .d (.st s)), (3, .d (.st (qAcc s k))), (4, .d (.it .i64 (k : Nat)))], [], 0⟩) (fun k => s.length - k) 0 (Nat.zero_le _) ⟨And.intro rfl (And.intro rfl (And.intro rfl trivial)), trivial, rfl⟩ ?_
  intro k hk
  have hql := qAcc_len s k
  rcases Nat.lt_or_ge k s.length with hkl | hkl
  · obtain ⟨c, hc⟩ := lt_get hkl
    have hc' : s[((k : Nat) : Int).toNat]? = some c := by rw [Int.toNat_natCast]; exact hc
    have hsg := sign_ok c
    have hsl := signQ_len c
    (repeat' ((conv=>whnf);first|with_reducible refine gA ?_|with_reducible refine at_is hc' ?_ | ((with_reducible refine callE_id ?_); refine CallE.con ⟨_, hsg, ?_⟩)|(with_reducible first|refine gB ?_|refine gZ (fun x hx hu=>?_)|refine gY (fun x hx=>?_)|refine gE ?_|refine Both.mk ?_ ?_|refine gS (fun h=>?_) (fun h=>?_)|refine Spl.nt ?_|refine Spl.mk (fun h=>?_) (fun h=>?_))))
    refine again (k + 1) (by omega) (by dsimp only; omega) (And.intro rfl (And.intro (st_eq ?_) (And.intro (it_eq (by omega)) trivial))) trivial rfl
    rw [qAcc, qAcc, take_snoc hc, List.flatMap_append]; simp
  · have hke : k = s.length := by omega
    (repeat' ((conv=>whnf);first|with_reducible refine gA ?_|(with_reducible first|refine gB ?_|refine gZ (fun x hx hu=>?_)|refine gY (fun x hx=>?_)|refine gE ?_|refine Both.mk ?_ ?_|refine gS (fun h=>?_) (fun h=>?_)|refine Spl.nt ?_|refine Spl.mk (fun h=>?_) (fun h=>?_))))
    refine st_eq ?_
    rw [hke, qAcc, quoteS, List.take_length]; rfl
theorem line_ok (x : Nod) (h : x.p.length ≤ 1000 ∧ x.x.length ≤ 1000) : FnC Tryz.prog 44 [.dg 3 (encN x)] (.d (.st (vline x))) := by
  have hq := rquote_ok x.x (by omega)
  have hql := quoteS_len x.x
  obtain ⟨p, d, t⟩ := x
  dsimp only at h hq hql
  refine FnC.intro ti_ok Tryz.func44 rfl Tryz.ntmps44 Tryz.call44 rfl (Nat.le_of_ble_eq_true rfl) rfl ?_
  cases d with
  | true =>
    (repeat' ((conv=>whnf);first|with_reducible refine gA ?_|(with_reducible first|refine gB ?_|refine gZ (fun x hx hu=>?_)|refine gY (fun x hx=>?_)|refine gE ?_|refine Both.mk ?_ ?_|refine gS (fun h=>?_) (fun h=>?_)|refine Spl.nt ?_|refine Spl.mk (fun h=>?_) (fun h=>?_))))
    rfl
  | false =>
    (repeat' ((conv=>whnf);first|with_reducible refine gA ?_|((with_reducible refine callE_id ?_); refine CallE.con ⟨_, hq, ?_⟩) | refine CallP.mk ⟨_, hq, ?_⟩|(with_reducible first|refine gB ?_|refine gZ (fun x hx hu=>?_)|refine gY (fun x hx=>?_)|refine gE ?_|refine Both.mk ?_ ?_|refine gS (fun h=>?_) (fun h=>?_)|refine Spl.nt ?_|refine Spl.mk (fun h=>?_) (fun h=>?_))))
    refine st_eq ?_
    show p ++ [32] ++ quoteS t ++ [10] = p ++ 32 :: (quoteS t ++ [10])
    simp
theorem rshow_ok (l : List Nod) (ho : okN l) (hl4 : l.length ≤ 1000) : FnC Tryz.prog 16 [.d (.fs 3 (l.map encN))] (showV l) := by
  refine FnC.intro ti_ok Tryz.func16 rfl Tryz.ntmps16 Tryz.call16 rfl (Nat.le_of_ble_eq_true rfl) rfl ?_
  have hl' : ((l.map encN).length : Int) = l.length := by rw [List.length_map]
  (repeat' ((conv=>whnf);first|with_reducible refine gA ?_|(with_reducible first|refine gB ?_|refine gZ (fun x hx hu=>?_)|refine gY (fun x hx=>?_)|refine gE ?_|refine Both.mk ?_ ?_|refine gS (fun h=>?_) (fun h=>?_)|refine Spl.nt ?_|refine Spl.mk (fun h=>?_) (fun h=>?_))))
  refine loop_rule ti_ok (fun k : Nat => k ≤ l.length ∧ (l.take k).all mayB = true) (fun k : Nat => ⟨[(0, .d (.fs 3 (l.map encN))), (4, .d (.st (showN (l.take k)))), (5, .d (.it .i64 (k : Nat)))], [], 0⟩) (fun k => l.length - k) 0 ⟨Nat.zero_le _, rfl⟩ ⟨And.intro rfl (And.intro rfl (And.intro rfl trivial)), trivial, rfl⟩ ?_
  intro k ⟨k1, k2⟩
  have hs := showN_len (l := l.take k) fun x hx => ho x (List.mem_of_mem_take hx)
  have htl : (l.take k).length ≤ k := List.length_take_le ..
  rcases Nat.lt_or_ge k l.length with hkl | hkl
  · obtain ⟨c, hc⟩ := lt_get hkl
    have hcb := ho c (List.mem_of_getElem? hc)
    have hm := refMay_ok c (by omega)
    have hln := line_ok c hcb
    have hll := vline_len hcb
    by_cases hb : mayB c = true
    · rw [hb] at hm
      have k3 : (l.take (k + 1)).all mayB = true := by rw [all_snocX hc, k2, hb]; rfl
      (repeat' ((conv=>whnf);first|with_reducible refine gA ?_|with_reducible refine at_known hc ?_ | ((with_reducible refine callE_id ?_); first | refine CallE.con ⟨_, hm, ?_⟩ | refine CallE.con ⟨_, hln, ?_⟩)|(with_reducible first|refine gB ?_|refine gZ (fun x hx hu=>?_)|refine gY (fun x hx=>?_)|refine gE ?_|refine Both.mk ?_ ?_|refine gS (fun h=>?_) (fun h=>?_)|refine Spl.nt ?_|refine Spl.mk (fun h=>?_) (fun h=>?_))))
      refine again (k + 1) ⟨by omega, k3⟩ (by dsimp only; omega) (And.intro rfl (And.intro (st_eq (showN_take hc).symm) (And.intro (it_eq (by omega)) trivial))) trivial rfl
    · rw [Bool.eq_false_iff.2 hb] at hm
      have hbad : l.all mayB = false := not_allX hc (Bool.eq_false_iff.2 hb)
      unfold showV
      rw [hbad]
      (repeat' ((conv=>whnf);first|with_reducible refine gA ?_|with_reducible refine at_known hc ?_ | ((with_reducible refine callE_id ?_); first | refine CallE.con ⟨_, hm, ?_⟩ | refine CallE.con ⟨_, hln, ?_⟩)|(with_reducible first|refine gB ?_|refine gZ (fun x hx hu=>?_)|refine gY (fun x hx=>?_)|refine gE ?_|refine Both.mk ?_ ?_|refine gS (fun h=>?_) (fun h=>?_)|refine Spl.nt ?_|refine Spl.mk (fun h=>?_) (fun h=>?_))))
      rfl
  · have hkl2 : l.take k = l := List.take_of_length_le (by omega)
    rw [hkl2] at k2 hs
    unfold showV
    rw [k2]
    (repeat' ((conv=>whnf);first|with_reducible refine gA ?_|(with_reducible first|refine gB ?_|refine gZ (fun x hx hu=>?_)|refine gY (fun x hx=>?_)|refine gE ?_|refine Both.mk ?_ ?_|refine gS (fun h=>?_) (fun h=>?_)|refine Spl.nt ?_|refine Spl.mk (fun h=>?_) (fun h=>?_))))
    show AV.tup [.d (.st (showN (l.take k))), _] = _
    rw [hkl2]; rfl
end Go.Proofs.YtijdbjjkfkjihaaGreatDoor

/- Out of quotes, by the document's answer. Conditions: none. -/
namespace Go.Proofs.YtijdbjjkfkjihaaGreatDoor
open Go.Sy
set_option maxRecDepth 100000
set_option linter.all false
theorem unqO_mid (mid : List UInt8) : unqO (34 :: (mid ++ [34])) = unqR mid := by
  unfold unqO
  rw [if_pos, List.drop_succ_cons, List.drop_zero, List.dropLast_concat]
  exact ⟨rfl, by simp, by rw [← List.cons_append, List.getLast?_concat]⟩
theorem unqO_not {s : List UInt8} (h : ¬ ∃ mid, s = 34 :: (mid ++ [34])) : unqO s = none := by
  unfold unqO
  refine if_neg fun q => h ?_
  obtain ⟨q1, q2, q3⟩ := q
  match s with
  | [] => cases q1
  | c :: r =>
    obtain rfl := Option.some.inj q1
    have hr : r ≠ [] := by rintro rfl; simp at q2
    rw [List.getLast?_cons_of_ne_nil hr] at q3
    exact ⟨r.dropLast, by rw [last_app q3]⟩
theorem ends_34 {s : List UInt8} (h2 : 2 ≤ s.length) (h0 : s[0]? = some 34) (h1 : s[s.length - 1]? = some 34) : ∃ mid, s = 34 :: (mid ++ [34]) := by
  match s with
  | [] => cases h0
  | c :: r =>
    obtain rfl := Option.some.inj h0
    have hr : r ≠ [] := by rintro rfl; simp at h2
    rw [← List.getLast?_eq_getElem?, List.getLast?_cons_of_ne_nil hr] at h1
    exact ⟨r.dropLast, by rw [last_app h1]⟩
theorem mid_sl {s mid : List UInt8} (hs : s = 34 :: (mid ++ [34])) {j w : Nat} {lo hi : Nat} (hlo : lo = j + 1) (hhi : hi = j + 1 + w) (hw : j + w ≤ mid.length) : (s.take hi).drop lo = (mid.drop j).take w := by
  subst hs hlo hhi
  rw [show j + 1 + w = (j + w) + 1 by omega, List.take_succ_cons, List.drop_succ_cons, List.take_append_of_le_length hw, List.take_drop]
theorem mid_at {s mid : List UInt8} (hs : s = 34 :: (mid ++ [34])) {j i : Nat} (hi : i = j + 1) (hj : j < mid.length) : s[i]? = mid[j]? := by
  subst hs hi
  rw [List.getElem?_cons_succ, List.getElem?_append_left hj]
theorem val_lt (c : UInt8) : 0 ≤ valV c ∧ valV c < 16 := by
  have := dig_lt c
  unfold valV
  split <;> omega
theorem pair_val {a b v : UInt8} (hv : (v.toNat : Int) = 16 * valV a + valV b) : (signQ v = [92, a, b] ∧ pairV a b = some v) ∨ (signQ v ≠ [92, a, b] ∧ pairV a b = none) := by
  cases hp : pairV a b with
  | some u =>
    have h := pairV_some hp
    have hd : 0 ≤ digI a ∧ 0 ≤ digI b := by
      unfold pairV at hp
      split at hp
      · assumption
      · cases hp
    have huv : u = v := by
      have hu : u = UInt8.ofNat (16 * (digI a).toNat + (digI b).toNat) := by
        unfold pairV at hp
        rw [if_pos hd] at hp
        split at hp
        · cases hp
        · exact (Option.some.inj hp).symm
      have ha := dig_lt a
      have hb := dig_lt b
      unfold valV at hv
      rw [if_pos hd.1, if_pos hd.2] at hv
      refine UInt8.toNat_inj.1 ?_
      rw [hu, UInt8.toNat_ofNat']
      omega
    subst huv
    exact .inl ⟨h, rfl⟩
  | none =>
    refine .inr ⟨fun h => ?_, rfl⟩
    unfold signQ at h
    split at h
    · simp at h
    · rename_i hq
      have h1 : hexD.getD (v.toNat / 16) 0 = a := by injection h with _ h; injection h
      have h2 : hexD.getD (v.toNat % 16) 0 = b := by injection h with _ h; injection h with _ h; injection h
      have := pair_sign v (by simpa using hq)
      rw [h1, h2, hp] at this
      cases this
def ruI (mid : List UInt8) (x : List UInt8 × Nat) : Prop := unqR mid = (unqR (mid.drop x.2)).map (x.1 ++ ·) ∧ x.2 ≤ mid.length ∧ x.1.length ≤ x.2
def ruA (s : List UInt8) (x : List UInt8 × Nat) : S := ⟨[(0, .d (.st s)), (4, .ts 1 (bytesD x.1) 0), (5, .d (.it .i64 (x.2 + 1 : Nat)))], [(0, .tail 5 true)], 1⟩
theorem tsB1 {a b : List (List D)} {n : Nat} (h : a = b) : AV.ts 1 a n = AV.ts 1 b n := by rw [h]
theorem drop_at {α : Type} {l : List α} {j : Nat} {c : α} (h : l[j]? = some c) : l.drop j = c :: l.drop (j + 1) := by
  obtain ⟨hj, rfl⟩ := List.getElem?_eq_some_iff.1 h
  exact List.drop_eq_getElem_cons hj
theorem runquote_ok (s : List UInt8) (hs : s.length ≤ 100000) : FnC Tryz.prog 14 [.d (.st s)] (optV (unqO s)) := by
  refine FnC.intro ti_ok Tryz.func14 rfl Tryz.ntmps14 Tryz.call14 rfl (Nat.le_of_ble_eq_true rfl) rfl ?_
  by_cases h2 : 2 ≤ s.length
  · obtain ⟨c0, h0⟩ := lt_get (l := s) (k := (0 : Int).toNat) (by show 0 < _; omega)
    obtain ⟨cl, hl⟩ := lt_get (l := s) (k := ((s.length : Int) - 1).toNat) (by omega)
    by_cases e0 : c0 = 34
    · by_cases el : cl = 34
      · subst e0 el
        obtain ⟨mid, hmid⟩ := ends_34 h2 h0 (by rw [show s.length - 1 = ((s.length : Int) - 1).toNat by omega]; exact hl)
        have hsl : s.length = mid.length + 2 := by rw [hmid]; simp
        rw [show unqO s = unqR mid by rw [hmid]; exact unqO_mid mid]
        (repeat' ((conv=>whnf);first|with_reducible refine gA ?_|with_reducible refine at_is h0 ?_ | with_reducible refine at_is hl ?_|(with_reducible first|refine gB ?_|refine gZ (fun x hx hu=>?_)|refine gY (fun x hx=>?_)|refine gE ?_|refine Both.mk ?_ ?_|refine gS (fun h=>?_) (fun h=>?_)|refine Spl.nt ?_|refine Spl.mk (fun h=>?_) (fun h=>?_))))
        refine loop_rule ti_ok (ruI mid) (ruA s) (fun x => mid.length - x.2) ([], 0) ⟨by rw [List.drop_zero]; cases unqR mid <;> rfl, Nat.zero_le _, Nat.le_refl _⟩ ⟨And.intro rfl (And.intro rfl (And.intro rfl trivial)), And.intro rfl trivial, rfl⟩ ?_
        intro ⟨acc, j⟩ ⟨hI, hj, ha⟩
        dsimp only at hI hj ha
        have hbl : (bytesD acc).length = acc.length := by simp [bytesD]
        rcases Nat.lt_or_ge j mid.length with hjl | hjl
        · obtain ⟨c, hc⟩ := lt_get hjl
          have hcs : s[((j + 1 : Nat) : Int).toNat]? = some c := by rw [mid_at hmid (by omega) hjl]; exact hc
          rw [drop_at hc] at hI
          by_cases hc92 : c = 92
          · subst hc92
            by_cases hj2 : j + 2 < mid.length
            · obtain ⟨a, hca⟩ := lt_get (l := mid) (k := j + 1) (by omega)
              obtain ⟨b, hcb⟩ := lt_get (l := mid) (k := j + 2) (by omega)
              have has : s[(((j + 1 : Nat) : Int) + 1).toNat]? = some a := by rw [mid_at hmid (j := j + 1) (by omega) (by omega)]; exact hca
              have hbs : s[(((j + 1 : Nat) : Int) + 2).toNat]? = some b := by rw [mid_at hmid (j := j + 2) (by omega) (by omega)]; exact hcb
              have ka := value_ok a
              have kb := value_ok b
              have la := val_lt a
              have lb := val_lt b
              rw [drop_at hca, drop_at hcb, unqR_esc] at hI
              obtain ⟨v, hv⟩ : ∃ v : UInt8, (v.toNat : Int) = 16 * valV a + valV b := ⟨UInt8.ofNat (16 * valV a + valV b).toNat, by rw [UInt8.toNat_ofNat']; omega⟩
              have hw : IntKind.u8.wrap (16 * valV a + valV b) = (v.toNat : Int) := by rw [IntWalk.u8_in _ (by omega), hv]
              have ksv := sign_ok v
              have hX : (s.take (((j + 1 : Nat) : Int) + 3).toNat).drop ((j + 1 : Nat) : Int).toNat = [92, a, b] := by rw [mid_sl hmid (j := j) (w := 3) (by omega) (by omega) (by omega), drop_at hc, drop_at hca, drop_at hcb]; rfl
              have hyes : signQ v = [92, a, b] → unqR mid = (unqR (mid.drop (j + 3))).map ((acc ++ [v]) ++ ·) := fun q => by
                rcases pair_val hv with ⟨_, q2⟩ | ⟨q1, _⟩
                · rw [q2] at hI
                  dsimp only at hI
                  rw [map_app] at hI
                  exact hI
                · exact absurd q q1
              have hno : signQ v ≠ [92, a, b] → unqR mid = none := fun q => by
                rcases pair_val hv with ⟨q1, _⟩ | ⟨_, q2⟩
                · exact absurd q1 q
                · rw [q2] at hI
                  exact hI
              have hlen2 : (acc ++ [v]).length ≤ j + 3 := by rw [List.length_append, List.length_singleton]; omega
              generalize valV a = va at *
              generalize valV b = vb at *
              (repeat' ((conv=>whnf);first|with_reducible refine gA ?_|with_reducible refine at_is hcs ?_ | with_reducible refine at_is has ?_ | with_reducible refine at_is hbs ?_ | refine CallP.mk ⟨_, ka, ?_⟩ | refine CallP.mk ⟨_, kb, ?_⟩ | refine CallP.mk ⟨_, ksv, ?_⟩ | ((with_reducible refine callE_id ?_); first | refine CallE.con ⟨_, ka, ?_⟩ | refine CallE.con ⟨_, kb, ?_⟩ | refine CallE.con ⟨_, ksv, ?_⟩) | with_reducible refine LetI.eq (v.toNat : Int) (by with_unfolding_all exact hw) ?_|(with_reducible first|refine gB ?_|refine gZ (fun x hx hu=>?_)|refine gY (fun x hx=>?_)|refine gE ?_|refine Both.mk ?_ ?_|refine gS (fun h=>?_) (fun h=>?_)|refine Spl.nt ?_|refine Spl.mk (fun h=>?_) (fun h=>?_))))
              · exact (congrArg optV (hno fun q => h (q.trans hX.symm))).symm
              · have hI2 : ruI mid (acc ++ [v], j + 3) := ⟨hyes (h.trans hX), by show j + 3 ≤ _; omega, hlen2⟩
                refine again (acc ++ [v], j + 3) hI2 (by show mid.length - (j + 3) < mid.length - j; omega) (And.intro rfl (And.intro (tsB1 (by rw [bytesD_app]; rfl)) (And.intro (it_eq (by dsimp only; omega)) trivial))) (And.intro rfl trivial) rfl
            · have hn : unqR mid = none := by
                rw [hI]
                match hd : mid.drop (j + 1) with
                | [] => rfl
                | [a] => rfl
                | a :: b :: r =>
                  have := congrArg List.length hd
                  rw [List.length_drop] at this
                  simp at this; omega
              rw [hn]
              have ksv := sign_ok 92
              have hX : (s.take (((j + 1 : Nat) : Int) + 1).toNat).drop ((j + 1 : Nat) : Int).toNat = [92] := by rw [mid_sl hmid (j := j) (w := 1) (by omega) (by omega) (by omega), drop_at hc]; rfl
              (repeat' ((conv=>whnf);first|with_reducible refine gA ?_|with_reducible refine at_is hcs ?_ | refine CallP.mk ⟨_, ksv, ?_⟩ | ((with_reducible refine callE_id ?_); refine CallE.con ⟨_, ksv, ?_⟩)|(with_reducible first|refine gB ?_|refine gZ (fun x hx hu=>?_)|refine gY (fun x hx=>?_)|refine gE ?_|refine Both.mk ?_ ?_|refine gS (fun h=>?_) (fun h=>?_)|refine Spl.nt ?_|refine Spl.mk (fun h=>?_) (fun h=>?_))))
              · rfl
              · exact absurd (h.trans hX) (by decide)
          · have hcn : c.toNat ≠ 92 := fun e => hc92 (UInt8.toNat_inj.1 e)
            rw [unqR_c _ hc92] at hI
            have ksv := sign_ok c
            have hX : (s.take (((j + 1 : Nat) : Int) + 1).toNat).drop ((j + 1 : Nat) : Int).toNat = [c] := by rw [mid_sl hmid (j := j) (w := 1) (by omega) (by omega) (by omega), drop_at hc]; rfl
            have hyes : signQ c = [c] → unqR mid = (unqR (mid.drop (j + 1))).map ((acc ++ [c]) ++ ·) := fun q => by
              by_cases hp : plainB c = true
              · rw [if_pos hp, map_app] at hI; exact hI
              · rw [show signQ c = [92, hexD.getD (c.toNat / 16) 0, hexD.getD (c.toNat % 16) 0] from if_neg hp] at q
                simp at q
            have hno : signQ c ≠ [c] → unqR mid = none := fun q => by
              by_cases hp : plainB c = true
              · exact absurd (if_pos hp) q
              · rw [if_neg hp] at hI; exact hI
            have hlen2 : (acc ++ [c]).length ≤ j + 1 := by rw [List.length_append, List.length_singleton]; omega
            (repeat' ((conv=>whnf);first|with_reducible refine gA ?_|with_reducible refine at_is hcs ?_ | refine CallP.mk ⟨_, ksv, ?_⟩ | ((with_reducible refine callE_id ?_); refine CallE.con ⟨_, ksv, ?_⟩)|(with_reducible first|refine gB ?_|refine gZ (fun x hx hu=>?_)|refine gY (fun x hx=>?_)|refine gE ?_|refine Both.mk ?_ ?_|refine gS (fun h=>?_) (fun h=>?_)|refine Spl.nt ?_|refine Spl.mk (fun h=>?_) (fun h=>?_))))
            · exact (congrArg optV (hno fun q => h (q.trans hX.symm))).symm
            · have hI2 : ruI mid (acc ++ [c], j + 1) := ⟨hyes (h.trans hX), by show j + 1 ≤ _; omega, hlen2⟩
              refine again (acc ++ [c], j + 1) hI2 (by show mid.length - (j + 1) < mid.length - j; omega) (And.intro rfl (And.intro (tsB1 (by rw [bytesD_app]; rfl)) (And.intro (it_eq (by dsimp only; omega)) trivial))) (And.intro rfl trivial) rfl
        · rw [List.drop_of_length_le (by omega)] at hI
          rw [hI]
          (repeat' ((conv=>whnf);first|with_reducible refine gA ?_|(with_reducible first|refine gB ?_|refine gZ (fun x hx hu=>?_)|refine gY (fun x hx=>?_)|refine gE ?_|refine Both.mk ?_ ?_|refine gS (fun h=>?_) (fun h=>?_)|refine Spl.nt ?_|refine Spl.mk (fun h=>?_) (fun h=>?_))))
          refine ⟨acc, rfl, ?_⟩
          show _ = AV.tup [.d (.st (acc ++ [])), .d (.bl true)]
          rw [List.append_nil]
      · rw [unqO_not fun ⟨mid, q⟩ => el (by
          have : s[s.length - 1]? = some 34 := by rw [q]; simp
          rw [show s.length - 1 = ((s.length : Int) - 1).toNat by omega, hl] at this
          exact Option.some.inj this)]
        have eln : cl.toNat ≠ 34 := fun q => el (UInt8.toNat_inj.1 q)
        subst e0
        (repeat' ((conv=>whnf);first|with_reducible refine gA ?_|with_reducible refine at_is h0 ?_ | with_reducible refine at_is hl ?_|(with_reducible first|refine gB ?_|refine gZ (fun x hx hu=>?_)|refine gY (fun x hx=>?_)|refine gE ?_|refine Both.mk ?_ ?_|refine gS (fun h=>?_) (fun h=>?_)|refine Spl.nt ?_|refine Spl.mk (fun h=>?_) (fun h=>?_))))
        rfl
    · rw [unqO_not fun ⟨mid, q⟩ => e0 (by rw [q] at h0; exact (Option.some.inj h0).symm)]
      have e0n : c0.toNat ≠ 34 := fun q => e0 (UInt8.toNat_inj.1 q)
      (repeat' ((conv=>whnf);first|with_reducible refine gA ?_|with_reducible refine at_is h0 ?_ | with_reducible refine at_is hl ?_|(with_reducible first|refine gB ?_|refine gZ (fun x hx hu=>?_)|refine gY (fun x hx=>?_)|refine gE ?_|refine Both.mk ?_ ?_|refine gS (fun h=>?_) (fun h=>?_)|refine Spl.nt ?_|refine Spl.mk (fun h=>?_) (fun h=>?_))))
      rfl
  · rw [unqO_not fun ⟨mid, q⟩ => h2 (by rw [q]; simp)]
    (repeat' ((conv=>whnf);first|with_reducible refine gA ?_|(with_reducible first|refine gB ?_|refine gZ (fun x hx hu=>?_)|refine gY (fun x hx=>?_)|refine gE ?_|refine Both.mk ?_ ?_|refine gS (fun h=>?_) (fun h=>?_)|refine Spl.nt ?_|refine Spl.mk (fun h=>?_) (fun h=>?_))))
    rfl
end Go.Proofs.YtijdbjjkfkjihaaGreatDoor

/- A text as nodes, by the document's answer. Conditions: none. -/
namespace Go.Proofs.YtijdbjjkfkjihaaGreatDoor
open Go.Sy
set_option maxRecDepth 100000
set_option linter.all false
/-- The node that the document builds of a line. -/
def rY (line : List UInt8) : Nod := match cutC 32 line with
  | (p, some q) => ⟨p, false, (unqO q).getD []⟩
  | (p, none) => if p = [] then ⟨[], false, []⟩ else ⟨p.dropLast, true, []⟩
theorem may_nil (x : List UInt8) (d : Bool) : mayB ⟨[], d, x⟩ = false := by
  unfold mayB
  refine decide_eq_false fun q => ?_
  have h : (splitP []).2 = 0 := q.1
  exact absurd h (by decide)
def okX (x : Nod) (line : List UInt8) : Option Nod := if mayB x = true ∧ vline x = line ++ [10] then some x else none
theorem okX_yes {x : Nod} {line : List UInt8} (h : mayB x = true) (h2 : vline x = line ++ [10]) : okX x line = some x := if_pos ⟨h, h2⟩
theorem okX_no {x : Nod} {line : List UInt8} (h : ¬ (mayB x = true ∧ vline x = line ++ [10])) : okX x line = none := if_neg h
theorem nodeO_x (line : List UInt8) : nodeO line = okX (rY line) line := by
  unfold nodeO rY
  rcases hc : cutC 32 line with ⟨p, q⟩
  cases q with
  | some q =>
    dsimp only
    have e := cutC_some hc
    cases hu : unqO q with
    | some t =>
      show (if mayB ⟨p, false, t⟩ = true then some ⟨p, false, t⟩ else none) = okX ⟨p, false, t⟩ line
      have h : vline ⟨p, false, t⟩ = line ++ [10] := by
        show p ++ 32 :: (quoteS t ++ [10]) = _
        rw [quote_unq hu, e]; simp
      by_cases hb : mayB ⟨p, false, t⟩ = true
      · rw [if_pos hb, okX_yes hb h]
      · rw [if_neg hb, okX_no fun q => hb q.1]
    | none =>
      show none = okX ⟨p, false, []⟩ line
      rw [okX_no]
      rintro ⟨_, h⟩
      have h : p ++ 32 :: (quoteS [] ++ [10]) = line ++ [10] := h
      rw [e, List.append_assoc, List.cons_append] at h
      have h := List.append_cancel_left h
      injection h with _ h
      have h := List.append_cancel_right h
      rw [← h, unq_quote] at hu; cases hu
  | none =>
    dsimp only
    have e := cutC_none hc
    by_cases hp : p = []
    · subst hp
      rw [if_neg fun q => (by cases q.1)]
      show none = okX ⟨[], false, []⟩ line
      rw [okX_no]
      rintro ⟨h, _⟩
      rw [may_nil] at h; cases h
    · rw [if_neg hp]
      by_cases hl : p.getLast? = some 47
      · have h : vline ⟨p.dropLast, true, []⟩ = line ++ [10] := by
          have := last_app hl
          show p.dropLast ++ [47, 10] = _
          rw [e]
          conv => rhs; rw [← this]
          simp
        by_cases hb : mayB ⟨p.dropLast, true, []⟩ = true
        · rw [if_pos ⟨hl, hb⟩, okX_yes hb h]
        · rw [if_neg fun q => hb q.2, okX_no fun q => hb q.1]
      · rw [if_neg fun q => hl q.1, okX_no]
        rintro ⟨_, h⟩
        have h : p.dropLast ++ [47, 10] = line ++ [10] := h
        rw [e, show p.dropLast ++ [47, 10] = (p.dropLast ++ [47]) ++ [10] by simp] at h
        have h := List.append_cancel_right h
        exact hl (by rw [← h, List.getLast?_concat])
theorem sub_st {s line : List UInt8} {i : Nat} {lo hi : Nat} {tl : List UInt8} (h : s.drop i = line ++ tl) (hlo : lo = i) (hhi : hi = i + line.length) : (s.take hi).drop lo = line := by
  subst hlo hhi
  rw [← List.take_drop, h, List.take_left]
theorem sub_at {s line : List UInt8} {i : Nat} {tl : List UInt8} (h : s.drop i = line ++ tl) {j k : Nat} (hj : j < line.length) (hk : k = i + j) : s[k]? = line[j]? := by
  subst hk
  rw [← List.getElem?_drop, h, List.getElem?_append_left hj]
theorem sub_end {s line : List UInt8} {i : Nat} {c : UInt8} {tl : List UInt8} (h : s.drop i = line ++ c :: tl) {k : Nat} (hk : k = i + line.length) : s[k]? = some c := by
  subst hk
  rw [← List.getElem?_drop, h, List.getElem?_append_right (Nat.le_refl _)]
  simp
def rrI (s : List UInt8) (x : List Nod × Nat) : Prop := readN s = (readN (s.drop x.2)).map (x.1 ++ ·) ∧ x.2 ≤ s.length ∧ x.1.length ≤ x.2
def rrS (s : List UInt8) (O : List Nod) (i : Nat) (e : List (Nat × AV)) : S := ⟨e ++ [(0, .d (.st s)), (4, .ts 3 (O.map encN) 1), (5, .d (.it .i64 (i : Nat)))], [(1, .tail 35 true)], 2⟩
theorem hexe {c : UInt8} {n : Nat} (h : c ≠ UInt8.ofNat n) (hn : n < 256) : c.toNat ≠ n := fun e => h (by rw [← e]; simp)
set_option maxHeartbeats 16000000 in
theorem rread_ok (s : List UInt8) (hs : s.length ≤ 1000) : FnC Tryz.prog 18 [.d (.st s)] (readA (readN s)) := by
  refine FnC.intro ti_ok Tryz.func18 rfl Tryz.ntmps18 Tryz.call18 rfl (Nat.le_of_ble_eq_true rfl) rfl ?_
  (repeat' ((conv=>whnf);first|with_reducible refine gA ?_|(with_reducible first|refine gB ?_|refine gZ (fun x hx hu=>?_)|refine gY (fun x hx=>?_)|refine gE ?_|refine Both.mk ?_ ?_|refine gS (fun h=>?_) (fun h=>?_)|refine Spl.nt ?_|refine Spl.mk (fun h=>?_) (fun h=>?_))))
  refine loop_rule ti_ok (rrI s) (fun x => rrS s x.1 x.2 []) (fun x => s.length - x.2) ([], 0) ⟨by rw [List.drop_zero]; cases readN s <;> rfl, Nat.zero_le _, Nat.le_refl _⟩ ⟨And.intro rfl (And.intro rfl (And.intro rfl trivial)), And.intro rfl trivial, rfl⟩ ?_
  intro ⟨acc, i⟩ ⟨hI, hi, ha⟩
  dsimp only at hI hi ha
  have hal : (acc.map encN).length = acc.length := List.length_map ..
  rcases Nat.lt_or_ge i s.length with hil | hil
  · have hne : s.drop i ≠ [] := fun e => by
      have := congrArg List.length e
      rw [List.length_drop, List.length_nil] at this; omega
    have hdl : (s.drop i).length = s.length - i := List.length_drop ..
    rcases hc : cutC 10 (s.drop i) with ⟨line, rest⟩
    have hn10 := cutC_ne (c := 10) (s.drop i)
    rw [hc] at hn10
    have hn10 : ∀ x ∈ line, x ≠ 10 := hn10
    rcases hp : cutC 32 line with ⟨p, q⟩
    have hn32 := cutC_ne (c := 32) line
    rw [hp] at hn32
    have hn32 : ∀ x ∈ p, x ≠ 32 := hn32
    have hpl := (cut_len hp).1
    have hxO := nodeO_x line
    unfold rY at hxO
    rw [hp] at hxO
    cases rest with
    | none =>
      cases q with
      | some q =>
        have hd : s.drop i = line ++ [] := by rw [List.append_nil]; exact cutC_none hc
        have hll : i + line.length = s.length := by
          have := congrArg List.length hd
          rw [hdl, List.append_nil] at this; omega
        rw [readN_none hne hc] at hI
        have hI : readN s = none := hI
        rw [hI]
        have hpe := cutC_some hp
        have hpq : p.length + 1 + q.length = line.length := by
          have := congrArg List.length hpe
          rw [List.length_append, List.length_cons] at this; omega
        have hdp : s.drop i = p ++ 32 :: (q ++ []) := by rw [hd, hpe]; simp
        have he32 : s[((i + p.length : Nat) : Int).toNat]? = some 32 := sub_end hdp (by omega)
        have hXp : (s.take ((i + p.length : Nat) : Int).toNat).drop ((i : Nat) : Int).toNat = p := sub_st hdp (by omega) (by omega)
        have hXq : (s.take ((i + line.length : Nat) : Int).toNat).drop (((i + p.length : Nat) : Int) + 1).toNat = q := sub_st (i := i + p.length + 1) (tl := []) (by rw [Nat.add_assoc, ← List.drop_drop, hdp]; simp) (by omega) (by omega)
        have hq : FnC Tryz.prog 14 [.d (.st ((s.take ((i + line.length : Nat) : Int).toNat).drop (((i + p.length : Nat) : Int) + 1).toNat))] (optV (unqO q)) := by rw [hXq]; exact runquote_ok q (by omega)
        have hul : ((unqO q).getD []).length ≤ q.length := by
          cases hu : unqO q with
          | none => exact Nat.zero_le _
          | some t => exact unq_len hu
        (repeat' ((conv=>whnf);first|with_reducible refine gA ?_|(with_reducible first|refine gB ?_|refine gZ (fun x hx hu=>?_)|refine gY (fun x hx=>?_)|refine gE ?_|refine Both.mk ?_ ?_|refine gS (fun h=>?_) (fun h=>?_)|refine Spl.nt ?_|refine Spl.mk (fun h=>?_) (fun h=>?_))))
        conv => whnf
        refine loop_rule ti_ok (fun j : Nat => j ≤ line.length) (fun j => rrS s acc i [(6, .d (.it .i64 (i + j : Nat)))]) (fun j => line.length - j) 0 (Nat.zero_le _) ⟨And.intro rfl (And.intro rfl (And.intro rfl (And.intro rfl trivial))), And.intro rfl trivial, rfl⟩ ?_
        intro j hj
        rcases Nat.lt_or_ge j line.length with hjl | hjl
        · obtain ⟨c, hcj⟩ := lt_get hjl
          have hcs : s[((i + j : Nat) : Int).toNat]? = some c := by rw [sub_at hd hjl (by omega)]; exact hcj
          have hcn : c.toNat ≠ 10 := hexe (hn10 c (List.mem_of_getElem? hcj)) (by decide)
          (repeat' ((conv=>whnf);first|with_reducible refine gA ?_|with_reducible refine at_is hcs ?_|(with_reducible first|refine gB ?_|refine gZ (fun x hx hu=>?_)|refine gY (fun x hx=>?_)|refine gE ?_|refine Both.mk ?_ ?_|refine gS (fun h=>?_) (fun h=>?_)|refine Spl.nt ?_|refine Spl.mk (fun h=>?_) (fun h=>?_))))
          refine again (j + 1) hjl (by dsimp only; omega) (And.intro (it_eq (by omega)) (And.intro rfl (And.intro rfl (And.intro rfl trivial)))) (And.intro rfl trivial) rfl
        · have hje : j = line.length := by omega
          subst hje
          (repeat' ((conv=>whnf);first|with_reducible refine gA ?_|(with_reducible first|refine gB ?_|refine gZ (fun x hx hu=>?_)|refine gY (fun x hx=>?_)|refine gE ?_|refine Both.mk ?_ ?_|refine gS (fun h=>?_) (fun h=>?_)|refine Spl.nt ?_|refine Spl.mk (fun h=>?_) (fun h=>?_))))
          conv => whnf
          refine loop_rule ti_ok (fun j : Nat => j ≤ p.length) (fun j => rrS s acc i [(6, .d (.it .i64 (i + line.length : Nat))), (7, .d (.it .i64 (i + j : Nat)))]) (fun j => p.length - j) 0 (Nat.zero_le _) ⟨And.intro (it_eq (by omega)) (And.intro rfl (And.intro rfl (And.intro rfl (And.intro rfl trivial)))), And.intro rfl trivial, rfl⟩ ?_
          intro j hj
          rcases Nat.lt_or_ge j p.length with hjl | hjl
          · obtain ⟨c, hcj⟩ := lt_get hjl
            have hcs : s[((i + j : Nat) : Int).toNat]? = some c := by rw [sub_at hdp hjl (by omega)]; exact hcj
            have hcn : c.toNat ≠ 32 := hexe (hn32 c (List.mem_of_getElem? hcj)) (by decide)
            (repeat' ((conv=>whnf);first|with_reducible refine gA ?_|with_reducible refine at_is hcs ?_|(with_reducible first|refine gB ?_|refine gZ (fun x hx hu=>?_)|refine gY (fun x hx=>?_)|refine gE ?_|refine Both.mk ?_ ?_|refine gS (fun h=>?_) (fun h=>?_)|refine Spl.nt ?_|refine Spl.mk (fun h=>?_) (fun h=>?_))))
            refine again (j + 1) hjl (by dsimp only; omega) (And.intro rfl (And.intro (it_eq (by omega)) (And.intro rfl (And.intro rfl (And.intro rfl trivial))))) (And.intro rfl trivial) rfl
          · have hje : j = p.length := by omega
            subst hje
            (repeat' ((conv=>whnf);first|with_reducible refine gA ?_|with_reducible refine at_is he32 ?_ | ((with_reducible refine callE_id ?_); first | refine CallE.con ⟨_, hq, ?_⟩) | refine CallP.mk ⟨_, hq, ?_⟩|(with_reducible first|refine gB ?_|refine gZ (fun x hx hu=>?_)|refine gY (fun x hx=>?_)|refine gE ?_|refine Both.mk ?_ ?_|refine gS (fun h=>?_) (fun h=>?_)|refine Spl.nt ?_|refine Spl.mk (fun h=>?_) (fun h=>?_))))
            all_goals exact rfl
      | none =>
        by_cases hpn : p = []
        · exact absurd (by rw [cutC_none hc, cutC_none hp, hpn]) hne
        · have hd : s.drop i = line ++ [] := by rw [List.append_nil]; exact cutC_none hc
          have hll : i + line.length = s.length := by
            have := congrArg List.length hd
            rw [hdl, List.append_nil] at this; omega
          rw [readN_none hne hc] at hI
          have hI : readN s = none := hI
          rw [hI]
          have hpe : line = p := cutC_none hp
          have hdp : s.drop i = p ++ [] := by rw [hd, hpe]
          have hlp : line.length = p.length := by rw [hpe]
          have hpp : 1 ≤ p.length := by
            cases p with
            | nil => exact absurd rfl hpn
            | cons => simp
          have hXd : (s.take (((i + p.length : Nat) : Int) - 1).toNat).drop ((i : Nat) : Int).toNat = p.dropLast := sub_st (i := i) (tl := [p.getLast hpn] ++ []) (by rw [hdp, ← List.append_assoc, List.dropLast_concat_getLast]) (by omega) (by rw [List.length_dropLast]; omega)
          (repeat' ((conv=>whnf);first|with_reducible refine gA ?_|(with_reducible first|refine gB ?_|refine gZ (fun x hx hu=>?_)|refine gY (fun x hx=>?_)|refine gE ?_|refine Both.mk ?_ ?_|refine gS (fun h=>?_) (fun h=>?_)|refine Spl.nt ?_|refine Spl.mk (fun h=>?_) (fun h=>?_))))
          conv => whnf
          refine loop_rule ti_ok (fun j : Nat => j ≤ line.length) (fun j => rrS s acc i [(6, .d (.it .i64 (i + j : Nat)))]) (fun j => line.length - j) 0 (Nat.zero_le _) ⟨And.intro rfl (And.intro rfl (And.intro rfl (And.intro rfl trivial))), And.intro rfl trivial, rfl⟩ ?_
          intro j hj
          rcases Nat.lt_or_ge j line.length with hjl | hjl
          · obtain ⟨c, hcj⟩ := lt_get hjl
            have hcs : s[((i + j : Nat) : Int).toNat]? = some c := by rw [sub_at hd hjl (by omega)]; exact hcj
            have hcn : c.toNat ≠ 10 := hexe (hn10 c (List.mem_of_getElem? hcj)) (by decide)
            (repeat' ((conv=>whnf);first|with_reducible refine gA ?_|with_reducible refine at_is hcs ?_|(with_reducible first|refine gB ?_|refine gZ (fun x hx hu=>?_)|refine gY (fun x hx=>?_)|refine gE ?_|refine Both.mk ?_ ?_|refine gS (fun h=>?_) (fun h=>?_)|refine Spl.nt ?_|refine Spl.mk (fun h=>?_) (fun h=>?_))))
            refine again (j + 1) hjl (by dsimp only; omega) (And.intro (it_eq (by omega)) (And.intro rfl (And.intro rfl (And.intro rfl trivial)))) (And.intro rfl trivial) rfl
          · have hje : j = line.length := by omega
            subst hje
            (repeat' ((conv=>whnf);first|with_reducible refine gA ?_|(with_reducible first|refine gB ?_|refine gZ (fun x hx hu=>?_)|refine gY (fun x hx=>?_)|refine gE ?_|refine Both.mk ?_ ?_|refine gS (fun h=>?_) (fun h=>?_)|refine Spl.nt ?_|refine Spl.mk (fun h=>?_) (fun h=>?_))))
            conv => whnf
            refine loop_rule ti_ok (fun j : Nat => j ≤ p.length) (fun j => rrS s acc i [(6, .d (.it .i64 (i + line.length : Nat))), (7, .d (.it .i64 (i + j : Nat)))]) (fun j => p.length - j) 0 (Nat.zero_le _) ⟨And.intro (it_eq (by omega)) (And.intro rfl (And.intro rfl (And.intro rfl (And.intro rfl trivial)))), And.intro rfl trivial, rfl⟩ ?_
            intro j hj
            rcases Nat.lt_or_ge j p.length with hjl | hjl
            · obtain ⟨c, hcj⟩ := lt_get hjl
              have hcs : s[((i + j : Nat) : Int).toNat]? = some c := by rw [sub_at hdp hjl (by omega)]; exact hcj
              have hcn : c.toNat ≠ 32 := hexe (hn32 c (List.mem_of_getElem? hcj)) (by decide)
              (repeat' ((conv=>whnf);first|with_reducible refine gA ?_|with_reducible refine at_is hcs ?_|(with_reducible first|refine gB ?_|refine gZ (fun x hx hu=>?_)|refine gY (fun x hx=>?_)|refine gE ?_|refine Both.mk ?_ ?_|refine gS (fun h=>?_) (fun h=>?_)|refine Spl.nt ?_|refine Spl.mk (fun h=>?_) (fun h=>?_))))
              refine again (j + 1) hjl (by dsimp only; omega) (And.intro rfl (And.intro (it_eq (by omega)) (And.intro rfl (And.intro rfl (And.intro rfl trivial))))) (And.intro rfl trivial) rfl
            · have hje : j = p.length := by omega
              subst hje
              (repeat' ((conv=>whnf);first|with_reducible refine gA ?_|(with_reducible first|refine gB ?_|refine gZ (fun x hx hu=>?_)|refine gY (fun x hx=>?_)|refine gE ?_|refine Both.mk ?_ ?_|refine gS (fun h=>?_) (fun h=>?_)|refine Spl.nt ?_|refine Spl.mk (fun h=>?_) (fun h=>?_))))
              all_goals exact rfl
    | some rest =>
      cases q with
      | some q =>
        have hd := cutC_some hc
        have hll : i + line.length + 1 + rest.length = s.length := by
          have := congrArg List.length hd
          rw [hdl, List.length_append, List.length_cons] at this; omega
        have he10 : s[((i + line.length : Nat) : Int).toNat]? = some 10 := sub_end hd (by omega)
        have hX3 : (s.take (((i + line.length : Nat) : Int) + 1).toNat).drop ((i : Nat) : Int).toNat = line ++ [10] := sub_st (tl := rest) (i := i) (by rw [hd]; simp) (by omega) (by rw [List.length_append, List.length_singleton]; omega)
        rw [readN_some hc, hxO] at hI
        have hrd : s.drop (i + line.length + 1) = rest := by rw [Nat.add_assoc, ← List.drop_drop, hd]; simp
        have hpe := cutC_some hp
        have hpq : p.length + 1 + q.length = line.length := by
          have := congrArg List.length hpe
          rw [List.length_append, List.length_cons] at this; omega
        have hdp : s.drop i = p ++ 32 :: (q ++ (10 :: rest)) := by rw [hd, hpe]; simp
        have he32 : s[((i + p.length : Nat) : Int).toNat]? = some 32 := sub_end hdp (by omega)
        have hXp : (s.take ((i + p.length : Nat) : Int).toNat).drop ((i : Nat) : Int).toNat = p := sub_st hdp (by omega) (by omega)
        have hXq : (s.take ((i + line.length : Nat) : Int).toNat).drop (((i + p.length : Nat) : Int) + 1).toNat = q := sub_st (i := i + p.length + 1) (tl := (10 :: rest)) (by rw [Nat.add_assoc, ← List.drop_drop, hdp]; simp) (by omega) (by omega)
        have hq : FnC Tryz.prog 14 [.d (.st ((s.take ((i + line.length : Nat) : Int).toNat).drop (((i + p.length : Nat) : Int) + 1).toNat))] (optV (unqO q)) := by rw [hXq]; exact runquote_ok q (by omega)
        have hul : ((unqO q).getD []).length ≤ q.length := by
          cases hu : unqO q with
          | none => exact Nat.zero_le _
          | some t => exact unq_len hu
        have hI : readN s = (match okX ⟨p, false, (unqO q).getD []⟩ line with | some x => (readN rest).map (x :: ·) | none => none).map (acc ++ ·) := hI
        have hxb : (Nod.p ⟨p, false, (unqO q).getD []⟩).length ≤ 1000 ∧ (Nod.x ⟨p, false, (unqO q).getD []⟩).length ≤ 1000 := by show p.length ≤ 1000 ∧ ((unqO q).getD []).length ≤ 1000; omega
        have hm : FnC Tryz.prog 43 [.dg 3 [.st ((s.take ((i + p.length : Nat) : Int).toNat).drop ((i : Nat) : Int).toNat), .bl false, .st ((unqO q).getD [])]] (.d (.bl (mayB ⟨p, false, (unqO q).getD []⟩))) := by rw [hXp]; exact refMay_ok ⟨p, false, (unqO q).getD []⟩ (by omega)
        have hln : FnC Tryz.prog 44 [.dg 3 [.st ((s.take ((i + p.length : Nat) : Int).toNat).drop ((i : Nat) : Int).toNat), .bl false, .st ((unqO q).getD [])]] (.d (.st (vline ⟨p, false, (unqO q).getD []⟩))) := by rw [hXp]; exact line_ok ⟨p, false, (unqO q).getD []⟩ hxb
        have hvl := vline_len hxb
        by_cases hb : mayB ⟨p, false, (unqO q).getD []⟩ = true
        · rw [hb] at hm
          have hyes : vline ⟨p, false, (unqO q).getD []⟩ = line ++ [10] → readN s = (readN (s.drop (i + line.length + 1))).map ((acc ++ [(⟨p, false, (unqO q).getD []⟩ : Nod)]) ++ ·) := fun e => by
            rw [okX_yes hb e] at hI
            dsimp only at hI
            rw [map_appN] at hI
            rw [hrd]; exact hI
          have hno : vline ⟨p, false, (unqO q).getD []⟩ ≠ line ++ [10] → readN s = none := fun e => by
            rw [okX_no fun q => e q.2] at hI; exact hI
          have hl2 : (acc ++ [(⟨p, false, (unqO q).getD []⟩ : Nod)]).length ≤ i + line.length + 1 := by rw [List.length_append, List.length_singleton]; omega
          (repeat' ((conv=>whnf);first|with_reducible refine gA ?_|(with_reducible first|refine gB ?_|refine gZ (fun x hx hu=>?_)|refine gY (fun x hx=>?_)|refine gE ?_|refine Both.mk ?_ ?_|refine gS (fun h=>?_) (fun h=>?_)|refine Spl.nt ?_|refine Spl.mk (fun h=>?_) (fun h=>?_))))
          conv => whnf
          refine loop_rule ti_ok (fun j : Nat => j ≤ line.length) (fun j => rrS s acc i [(6, .d (.it .i64 (i + j : Nat)))]) (fun j => line.length - j) 0 (Nat.zero_le _) ⟨And.intro rfl (And.intro rfl (And.intro rfl (And.intro rfl trivial))), And.intro rfl trivial, rfl⟩ ?_
          intro j hj
          rcases Nat.lt_or_ge j line.length with hjl | hjl
          · obtain ⟨c, hcj⟩ := lt_get hjl
            have hcs : s[((i + j : Nat) : Int).toNat]? = some c := by rw [sub_at hd hjl (by omega)]; exact hcj
            have hcn : c.toNat ≠ 10 := hexe (hn10 c (List.mem_of_getElem? hcj)) (by decide)
            (repeat' ((conv=>whnf);first|with_reducible refine gA ?_|with_reducible refine at_is hcs ?_|(with_reducible first|refine gB ?_|refine gZ (fun x hx hu=>?_)|refine gY (fun x hx=>?_)|refine gE ?_|refine Both.mk ?_ ?_|refine gS (fun h=>?_) (fun h=>?_)|refine Spl.nt ?_|refine Spl.mk (fun h=>?_) (fun h=>?_))))
            refine again (j + 1) hjl (by dsimp only; omega) (And.intro (it_eq (by omega)) (And.intro rfl (And.intro rfl (And.intro rfl trivial)))) (And.intro rfl trivial) rfl
          · have hje : j = line.length := by omega
            subst hje
            (repeat' ((conv=>whnf);first|with_reducible refine gA ?_|with_reducible refine at_is he10 ?_|(with_reducible first|refine gB ?_|refine gZ (fun x hx hu=>?_)|refine gY (fun x hx=>?_)|refine gE ?_|refine Both.mk ?_ ?_|refine gS (fun h=>?_) (fun h=>?_)|refine Spl.nt ?_|refine Spl.mk (fun h=>?_) (fun h=>?_))))
            conv => whnf
            refine loop_rule ti_ok (fun j : Nat => j ≤ p.length) (fun j => rrS s acc i [(6, .d (.it .i64 (i + line.length : Nat))), (7, .d (.it .i64 (i + j : Nat)))]) (fun j => p.length - j) 0 (Nat.zero_le _) ⟨And.intro (it_eq (by omega)) (And.intro rfl (And.intro rfl (And.intro rfl (And.intro rfl trivial)))), And.intro rfl trivial, rfl⟩ ?_
            intro j hj
            rcases Nat.lt_or_ge j p.length with hjl | hjl
            · obtain ⟨c, hcj⟩ := lt_get hjl
              have hcs : s[((i + j : Nat) : Int).toNat]? = some c := by rw [sub_at hdp hjl (by omega)]; exact hcj
              have hcn : c.toNat ≠ 32 := hexe (hn32 c (List.mem_of_getElem? hcj)) (by decide)
              (repeat' ((conv=>whnf);first|with_reducible refine gA ?_|with_reducible refine at_is hcs ?_|(with_reducible first|refine gB ?_|refine gZ (fun x hx hu=>?_)|refine gY (fun x hx=>?_)|refine gE ?_|refine Both.mk ?_ ?_|refine gS (fun h=>?_) (fun h=>?_)|refine Spl.nt ?_|refine Spl.mk (fun h=>?_) (fun h=>?_))))
              refine again (j + 1) hjl (by dsimp only; omega) (And.intro rfl (And.intro (it_eq (by omega)) (And.intro rfl (And.intro rfl (And.intro rfl trivial))))) (And.intro rfl trivial) rfl
            · have hje : j = p.length := by omega
              subst hje
              (repeat' ((conv=>whnf);first|with_reducible refine gA ?_|with_reducible refine at_is he10 ?_ | with_reducible refine at_is he32 ?_ | ((with_reducible refine callE_id ?_); first | refine CallE.con ⟨_, hq, ?_⟩ | refine CallE.con ⟨_, hm, ?_⟩ | refine CallE.con ⟨_, hln, ?_⟩) | refine CallP.mk ⟨_, hq, ?_⟩ | refine CallP.mk ⟨_, hm, ?_⟩ | refine CallP.mk ⟨_, hln, ?_⟩|(with_reducible first|refine gB ?_|refine gZ (fun x hx hu=>?_)|refine gY (fun x hx=>?_)|refine gE ?_|refine Both.mk ?_ ?_|refine gS (fun h=>?_) (fun h=>?_)|refine Spl.nt ?_|refine Spl.mk (fun h=>?_) (fun h=>?_))))
              · exact (congrArg readA (hno fun q => h (q.trans hX3.symm))).symm
              · have hI2 : rrI s (acc ++ [(⟨p, false, (unqO q).getD []⟩ : Nod)], i + line.length + 1) := ⟨hyes (h.trans hX3), by show i + line.length + 1 ≤ _; omega, hl2⟩
                refine again (acc ++ [(⟨p, false, (unqO q).getD []⟩ : Nod)], i + line.length + 1) hI2 (by show s.length - (i + line.length + 1) < s.length - i; omega) (And.intro rfl (And.intro (tsN (by rw [List.map_append]; show _ ++ [([.st ((s.take ((i + p.length : Nat) : Int).toNat).drop ((i : Nat) : Int).toNat), .bl false, .st ((unqO q).getD [])] : List D)] = _; rw [hXp]; rfl)) (And.intro (it_eq (by dsimp only; omega)) trivial))) (And.intro rfl trivial) rfl
        · rw [Bool.eq_false_iff.2 hb] at hm
          have hI : readN s = none := by
            rw [okX_no fun q => hb q.1] at hI; exact hI
          rw [hI]
          (repeat' ((conv=>whnf);first|with_reducible refine gA ?_|(with_reducible first|refine gB ?_|refine gZ (fun x hx hu=>?_)|refine gY (fun x hx=>?_)|refine gE ?_|refine Both.mk ?_ ?_|refine gS (fun h=>?_) (fun h=>?_)|refine Spl.nt ?_|refine Spl.mk (fun h=>?_) (fun h=>?_))))
          conv => whnf
          refine loop_rule ti_ok (fun j : Nat => j ≤ line.length) (fun j => rrS s acc i [(6, .d (.it .i64 (i + j : Nat)))]) (fun j => line.length - j) 0 (Nat.zero_le _) ⟨And.intro rfl (And.intro rfl (And.intro rfl (And.intro rfl trivial))), And.intro rfl trivial, rfl⟩ ?_
          intro j hj
          rcases Nat.lt_or_ge j line.length with hjl | hjl
          · obtain ⟨c, hcj⟩ := lt_get hjl
            have hcs : s[((i + j : Nat) : Int).toNat]? = some c := by rw [sub_at hd hjl (by omega)]; exact hcj
            have hcn : c.toNat ≠ 10 := hexe (hn10 c (List.mem_of_getElem? hcj)) (by decide)
            (repeat' ((conv=>whnf);first|with_reducible refine gA ?_|with_reducible refine at_is hcs ?_|(with_reducible first|refine gB ?_|refine gZ (fun x hx hu=>?_)|refine gY (fun x hx=>?_)|refine gE ?_|refine Both.mk ?_ ?_|refine gS (fun h=>?_) (fun h=>?_)|refine Spl.nt ?_|refine Spl.mk (fun h=>?_) (fun h=>?_))))
            refine again (j + 1) hjl (by dsimp only; omega) (And.intro (it_eq (by omega)) (And.intro rfl (And.intro rfl (And.intro rfl trivial)))) (And.intro rfl trivial) rfl
          · have hje : j = line.length := by omega
            subst hje
            (repeat' ((conv=>whnf);first|with_reducible refine gA ?_|with_reducible refine at_is he10 ?_|(with_reducible first|refine gB ?_|refine gZ (fun x hx hu=>?_)|refine gY (fun x hx=>?_)|refine gE ?_|refine Both.mk ?_ ?_|refine gS (fun h=>?_) (fun h=>?_)|refine Spl.nt ?_|refine Spl.mk (fun h=>?_) (fun h=>?_))))
            conv => whnf
            refine loop_rule ti_ok (fun j : Nat => j ≤ p.length) (fun j => rrS s acc i [(6, .d (.it .i64 (i + line.length : Nat))), (7, .d (.it .i64 (i + j : Nat)))]) (fun j => p.length - j) 0 (Nat.zero_le _) ⟨And.intro (it_eq (by omega)) (And.intro rfl (And.intro rfl (And.intro rfl (And.intro rfl trivial)))), And.intro rfl trivial, rfl⟩ ?_
            intro j hj
            rcases Nat.lt_or_ge j p.length with hjl | hjl
            · obtain ⟨c, hcj⟩ := lt_get hjl
              have hcs : s[((i + j : Nat) : Int).toNat]? = some c := by rw [sub_at hdp hjl (by omega)]; exact hcj
              have hcn : c.toNat ≠ 32 := hexe (hn32 c (List.mem_of_getElem? hcj)) (by decide)
              (repeat' ((conv=>whnf);first|with_reducible refine gA ?_|with_reducible refine at_is hcs ?_|(with_reducible first|refine gB ?_|refine gZ (fun x hx hu=>?_)|refine gY (fun x hx=>?_)|refine gE ?_|refine Both.mk ?_ ?_|refine gS (fun h=>?_) (fun h=>?_)|refine Spl.nt ?_|refine Spl.mk (fun h=>?_) (fun h=>?_))))
              refine again (j + 1) hjl (by dsimp only; omega) (And.intro rfl (And.intro (it_eq (by omega)) (And.intro rfl (And.intro rfl (And.intro rfl trivial))))) (And.intro rfl trivial) rfl
            · have hje : j = p.length := by omega
              subst hje
              (repeat' ((conv=>whnf);first|with_reducible refine gA ?_|with_reducible refine at_is he10 ?_ | with_reducible refine at_is he32 ?_ | ((with_reducible refine callE_id ?_); first | refine CallE.con ⟨_, hq, ?_⟩ | refine CallE.con ⟨_, hm, ?_⟩ | refine CallE.con ⟨_, hln, ?_⟩) | refine CallP.mk ⟨_, hq, ?_⟩ | refine CallP.mk ⟨_, hm, ?_⟩ | refine CallP.mk ⟨_, hln, ?_⟩|(with_reducible first|refine gB ?_|refine gZ (fun x hx hu=>?_)|refine gY (fun x hx=>?_)|refine gE ?_|refine Both.mk ?_ ?_|refine gS (fun h=>?_) (fun h=>?_)|refine Spl.nt ?_|refine Spl.mk (fun h=>?_) (fun h=>?_))))
              all_goals exact rfl
      | none =>
        by_cases hpn : p = []
        · have hd := cutC_some hc
          have hll : i + line.length + 1 + rest.length = s.length := by
            have := congrArg List.length hd
            rw [hdl, List.length_append, List.length_cons] at this; omega
          have he10 : s[((i + line.length : Nat) : Int).toNat]? = some 10 := sub_end hd (by omega)
          have hX3 : (s.take (((i + line.length : Nat) : Int) + 1).toNat).drop ((i : Nat) : Int).toNat = line ++ [10] := sub_st (tl := rest) (i := i) (by rw [hd]; simp) (by omega) (by rw [List.length_append, List.length_singleton]; omega)
          rw [readN_some hc, hxO] at hI
          have hrd : s.drop (i + line.length + 1) = rest := by rw [Nat.add_assoc, ← List.drop_drop, hd]; simp
          subst hpn
          have hpe : line = [] := cutC_none hp
          have hdp : s.drop i = [] ++ (10 :: rest) := by rw [hd, hpe]
          have hlp : line.length = ([] : List UInt8).length := by rw [hpe]
          have hp0 : ([] : List UInt8).length = 0 := rfl
          have hXp : (s.take ((i + ([] : List UInt8).length : Nat) : Int).toNat).drop ((i : Nat) : Int).toNat = [] := sub_st (line := []) hdp (by omega) (by omega)
          have hI : readN s = (match okX ⟨[], false, []⟩ line with | some x => (readN rest).map (x :: ·) | none => none).map (acc ++ ·) := hI
          have hxb : (Nod.p ⟨[], false, []⟩).length ≤ 1000 ∧ (Nod.x ⟨[], false, []⟩).length ≤ 1000 := by decide
          have hm : FnC Tryz.prog 43 [.dg 3 [.st ((s.take ((i + ([] : List UInt8).length : Nat) : Int).toNat).drop ((i : Nat) : Int).toNat), .bl false, .st []]] (.d (.bl (mayB ⟨[], false, []⟩))) := by rw [hXp]; exact refMay_ok ⟨[], false, []⟩ (by omega)
          have hln : FnC Tryz.prog 44 [.dg 3 [.st ((s.take ((i + ([] : List UInt8).length : Nat) : Int).toNat).drop ((i : Nat) : Int).toNat), .bl false, .st []]] (.d (.st (vline ⟨[], false, []⟩))) := by rw [hXp]; exact line_ok ⟨[], false, []⟩ hxb
          have hvl := vline_len hxb
          by_cases hb : mayB ⟨[], false, []⟩ = true
          · rw [hb] at hm
            have hyes : vline ⟨[], false, []⟩ = line ++ [10] → readN s = (readN (s.drop (i + line.length + 1))).map ((acc ++ [(⟨[], false, []⟩ : Nod)]) ++ ·) := fun e => by
              rw [okX_yes hb e] at hI
              dsimp only at hI
              rw [map_appN] at hI
              rw [hrd]; exact hI
            have hno : vline ⟨[], false, []⟩ ≠ line ++ [10] → readN s = none := fun e => by
              rw [okX_no fun q => e q.2] at hI; exact hI
            have hl2 : (acc ++ [(⟨[], false, []⟩ : Nod)]).length ≤ i + line.length + 1 := by rw [List.length_append, List.length_singleton]; omega
            (repeat' ((conv=>whnf);first|with_reducible refine gA ?_|(with_reducible first|refine gB ?_|refine gZ (fun x hx hu=>?_)|refine gY (fun x hx=>?_)|refine gE ?_|refine Both.mk ?_ ?_|refine gS (fun h=>?_) (fun h=>?_)|refine Spl.nt ?_|refine Spl.mk (fun h=>?_) (fun h=>?_))))
            conv => whnf
            refine loop_rule ti_ok (fun j : Nat => j ≤ line.length) (fun j => rrS s acc i [(6, .d (.it .i64 (i + j : Nat)))]) (fun j => line.length - j) 0 (Nat.zero_le _) ⟨And.intro rfl (And.intro rfl (And.intro rfl (And.intro rfl trivial))), And.intro rfl trivial, rfl⟩ ?_
            intro j hj
            rcases Nat.lt_or_ge j line.length with hjl | hjl
            · obtain ⟨c, hcj⟩ := lt_get hjl
              have hcs : s[((i + j : Nat) : Int).toNat]? = some c := by rw [sub_at hd hjl (by omega)]; exact hcj
              have hcn : c.toNat ≠ 10 := hexe (hn10 c (List.mem_of_getElem? hcj)) (by decide)
              (repeat' ((conv=>whnf);first|with_reducible refine gA ?_|with_reducible refine at_is hcs ?_|(with_reducible first|refine gB ?_|refine gZ (fun x hx hu=>?_)|refine gY (fun x hx=>?_)|refine gE ?_|refine Both.mk ?_ ?_|refine gS (fun h=>?_) (fun h=>?_)|refine Spl.nt ?_|refine Spl.mk (fun h=>?_) (fun h=>?_))))
              refine again (j + 1) hjl (by dsimp only; omega) (And.intro (it_eq (by omega)) (And.intro rfl (And.intro rfl (And.intro rfl trivial)))) (And.intro rfl trivial) rfl
            · have hje : j = line.length := by omega
              subst hje
              (repeat' ((conv=>whnf);first|with_reducible refine gA ?_|with_reducible refine at_is he10 ?_|(with_reducible first|refine gB ?_|refine gZ (fun x hx hu=>?_)|refine gY (fun x hx=>?_)|refine gE ?_|refine Both.mk ?_ ?_|refine gS (fun h=>?_) (fun h=>?_)|refine Spl.nt ?_|refine Spl.mk (fun h=>?_) (fun h=>?_))))
              conv => whnf
              refine loop_rule ti_ok (fun j : Nat => j ≤ ([] : List UInt8).length) (fun j => rrS s acc i [(6, .d (.it .i64 (i + line.length : Nat))), (7, .d (.it .i64 (i + j : Nat)))]) (fun j => ([] : List UInt8).length - j) 0 (Nat.zero_le _) ⟨And.intro (it_eq (by omega)) (And.intro rfl (And.intro rfl (And.intro rfl (And.intro rfl trivial)))), And.intro rfl trivial, rfl⟩ ?_
              intro j hj
              rcases Nat.lt_or_ge j ([] : List UInt8).length with hjl | hjl
              · obtain ⟨c, hcj⟩ := lt_get hjl
                have hcs : s[((i + j : Nat) : Int).toNat]? = some c := by rw [sub_at (line := []) hdp hjl (by omega)]; exact hcj
                have hcn : c.toNat ≠ 32 := hexe (hn32 c (List.mem_of_getElem? hcj)) (by decide)
                (repeat' ((conv=>whnf);first|with_reducible refine gA ?_|with_reducible refine at_is hcs ?_|(with_reducible first|refine gB ?_|refine gZ (fun x hx hu=>?_)|refine gY (fun x hx=>?_)|refine gE ?_|refine Both.mk ?_ ?_|refine gS (fun h=>?_) (fun h=>?_)|refine Spl.nt ?_|refine Spl.mk (fun h=>?_) (fun h=>?_))))
                refine again (j + 1) hjl (by dsimp only; omega) (And.intro rfl (And.intro (it_eq (by omega)) (And.intro rfl (And.intro rfl (And.intro rfl trivial))))) (And.intro rfl trivial) rfl
              · have hje : j = ([] : List UInt8).length := by omega
                subst hje
                (repeat' ((conv=>whnf);first|with_reducible refine gA ?_|with_reducible refine at_is he10 ?_ | ((with_reducible refine callE_id ?_); first | refine CallE.con ⟨_, hm, ?_⟩ | refine CallE.con ⟨_, hln, ?_⟩) | refine CallP.mk ⟨_, hm, ?_⟩ | refine CallP.mk ⟨_, hln, ?_⟩|(with_reducible first|refine gB ?_|refine gZ (fun x hx hu=>?_)|refine gY (fun x hx=>?_)|refine gE ?_|refine Both.mk ?_ ?_|refine gS (fun h=>?_) (fun h=>?_)|refine Spl.nt ?_|refine Spl.mk (fun h=>?_) (fun h=>?_))))
                · exact (congrArg readA (hno fun q => h (q.trans hX3.symm))).symm
                · have hI2 : rrI s (acc ++ [(⟨[], false, []⟩ : Nod)], i + line.length + 1) := ⟨hyes (h.trans hX3), by show i + line.length + 1 ≤ _; omega, hl2⟩
                  refine again (acc ++ [(⟨[], false, []⟩ : Nod)], i + line.length + 1) hI2 (by show s.length - (i + line.length + 1) < s.length - i; omega) (And.intro rfl (And.intro (tsN (by rw [List.map_append]; show _ ++ [([.st ((s.take ((i + ([] : List UInt8).length : Nat) : Int).toNat).drop ((i : Nat) : Int).toNat), .bl false, .st []] : List D)] = _; rw [hXp]; rfl)) (And.intro (it_eq (by dsimp only; omega)) trivial))) (And.intro rfl trivial) rfl
          · rw [Bool.eq_false_iff.2 hb] at hm
            have hI : readN s = none := by
              rw [okX_no fun q => hb q.1] at hI; exact hI
            rw [hI]
            (repeat' ((conv=>whnf);first|with_reducible refine gA ?_|(with_reducible first|refine gB ?_|refine gZ (fun x hx hu=>?_)|refine gY (fun x hx=>?_)|refine gE ?_|refine Both.mk ?_ ?_|refine gS (fun h=>?_) (fun h=>?_)|refine Spl.nt ?_|refine Spl.mk (fun h=>?_) (fun h=>?_))))
            conv => whnf
            refine loop_rule ti_ok (fun j : Nat => j ≤ line.length) (fun j => rrS s acc i [(6, .d (.it .i64 (i + j : Nat)))]) (fun j => line.length - j) 0 (Nat.zero_le _) ⟨And.intro rfl (And.intro rfl (And.intro rfl (And.intro rfl trivial))), And.intro rfl trivial, rfl⟩ ?_
            intro j hj
            rcases Nat.lt_or_ge j line.length with hjl | hjl
            · obtain ⟨c, hcj⟩ := lt_get hjl
              have hcs : s[((i + j : Nat) : Int).toNat]? = some c := by rw [sub_at hd hjl (by omega)]; exact hcj
              have hcn : c.toNat ≠ 10 := hexe (hn10 c (List.mem_of_getElem? hcj)) (by decide)
              (repeat' ((conv=>whnf);first|with_reducible refine gA ?_|with_reducible refine at_is hcs ?_|(with_reducible first|refine gB ?_|refine gZ (fun x hx hu=>?_)|refine gY (fun x hx=>?_)|refine gE ?_|refine Both.mk ?_ ?_|refine gS (fun h=>?_) (fun h=>?_)|refine Spl.nt ?_|refine Spl.mk (fun h=>?_) (fun h=>?_))))
              refine again (j + 1) hjl (by dsimp only; omega) (And.intro (it_eq (by omega)) (And.intro rfl (And.intro rfl (And.intro rfl trivial)))) (And.intro rfl trivial) rfl
            · have hje : j = line.length := by omega
              subst hje
              (repeat' ((conv=>whnf);first|with_reducible refine gA ?_|with_reducible refine at_is he10 ?_|(with_reducible first|refine gB ?_|refine gZ (fun x hx hu=>?_)|refine gY (fun x hx=>?_)|refine gE ?_|refine Both.mk ?_ ?_|refine gS (fun h=>?_) (fun h=>?_)|refine Spl.nt ?_|refine Spl.mk (fun h=>?_) (fun h=>?_))))
              conv => whnf
              refine loop_rule ti_ok (fun j : Nat => j ≤ ([] : List UInt8).length) (fun j => rrS s acc i [(6, .d (.it .i64 (i + line.length : Nat))), (7, .d (.it .i64 (i + j : Nat)))]) (fun j => ([] : List UInt8).length - j) 0 (Nat.zero_le _) ⟨And.intro (it_eq (by omega)) (And.intro rfl (And.intro rfl (And.intro rfl (And.intro rfl trivial)))), And.intro rfl trivial, rfl⟩ ?_
              intro j hj
              rcases Nat.lt_or_ge j ([] : List UInt8).length with hjl | hjl
              · obtain ⟨c, hcj⟩ := lt_get hjl
                have hcs : s[((i + j : Nat) : Int).toNat]? = some c := by rw [sub_at (line := []) hdp hjl (by omega)]; exact hcj
                have hcn : c.toNat ≠ 32 := hexe (hn32 c (List.mem_of_getElem? hcj)) (by decide)
                (repeat' ((conv=>whnf);first|with_reducible refine gA ?_|with_reducible refine at_is hcs ?_|(with_reducible first|refine gB ?_|refine gZ (fun x hx hu=>?_)|refine gY (fun x hx=>?_)|refine gE ?_|refine Both.mk ?_ ?_|refine gS (fun h=>?_) (fun h=>?_)|refine Spl.nt ?_|refine Spl.mk (fun h=>?_) (fun h=>?_))))
                refine again (j + 1) hjl (by dsimp only; omega) (And.intro rfl (And.intro (it_eq (by omega)) (And.intro rfl (And.intro rfl (And.intro rfl trivial))))) (And.intro rfl trivial) rfl
              · have hje : j = ([] : List UInt8).length := by omega
                subst hje
                (repeat' ((conv=>whnf);first|with_reducible refine gA ?_|with_reducible refine at_is he10 ?_ | ((with_reducible refine callE_id ?_); first | refine CallE.con ⟨_, hm, ?_⟩ | refine CallE.con ⟨_, hln, ?_⟩) | refine CallP.mk ⟨_, hm, ?_⟩ | refine CallP.mk ⟨_, hln, ?_⟩|(with_reducible first|refine gB ?_|refine gZ (fun x hx hu=>?_)|refine gY (fun x hx=>?_)|refine gE ?_|refine Both.mk ?_ ?_|refine gS (fun h=>?_) (fun h=>?_)|refine Spl.nt ?_|refine Spl.mk (fun h=>?_) (fun h=>?_))))
                all_goals exact rfl
        · have hd := cutC_some hc
          have hll : i + line.length + 1 + rest.length = s.length := by
            have := congrArg List.length hd
            rw [hdl, List.length_append, List.length_cons] at this; omega
          have he10 : s[((i + line.length : Nat) : Int).toNat]? = some 10 := sub_end hd (by omega)
          have hX3 : (s.take (((i + line.length : Nat) : Int) + 1).toNat).drop ((i : Nat) : Int).toNat = line ++ [10] := sub_st (tl := rest) (i := i) (by rw [hd]; simp) (by omega) (by rw [List.length_append, List.length_singleton]; omega)
          rw [readN_some hc, hxO] at hI
          have hrd : s.drop (i + line.length + 1) = rest := by rw [Nat.add_assoc, ← List.drop_drop, hd]; simp
          have hpe : line = p := cutC_none hp
          have hdp : s.drop i = p ++ (10 :: rest) := by rw [hd, hpe]
          have hlp : line.length = p.length := by rw [hpe]
          have hpp : 1 ≤ p.length := by
            cases p with
            | nil => exact absurd rfl hpn
            | cons => simp
          have hXd : (s.take (((i + p.length : Nat) : Int) - 1).toNat).drop ((i : Nat) : Int).toNat = p.dropLast := sub_st (i := i) (tl := [p.getLast hpn] ++ (10 :: rest)) (by rw [hdp, ← List.append_assoc, List.dropLast_concat_getLast]) (by omega) (by rw [List.length_dropLast]; omega)
          have hI : readN s = (match okX (if p = [] then ⟨[], false, []⟩ else ⟨p.dropLast, true, []⟩) line with | some x => (readN rest).map (x :: ·) | none => none).map (acc ++ ·) := hI
          rw [if_neg hpn] at hI
          have hxb : (Nod.p ⟨p.dropLast, true, []⟩).length ≤ 1000 ∧ (Nod.x ⟨p.dropLast, true, []⟩).length ≤ 1000 := by show p.dropLast.length ≤ 1000 ∧ ([] : List UInt8).length ≤ 1000; rw [List.length_dropLast]; exact ⟨by omega, by decide⟩
          have hm : FnC Tryz.prog 43 [.dg 3 [.st ((s.take (((i + p.length : Nat) : Int) - 1).toNat).drop ((i : Nat) : Int).toNat), .bl true, .st []]] (.d (.bl (mayB ⟨p.dropLast, true, []⟩))) := by rw [hXd]; exact refMay_ok ⟨p.dropLast, true, []⟩ (by omega)
          have hln : FnC Tryz.prog 44 [.dg 3 [.st ((s.take (((i + p.length : Nat) : Int) - 1).toNat).drop ((i : Nat) : Int).toNat), .bl true, .st []]] (.d (.st (vline ⟨p.dropLast, true, []⟩))) := by rw [hXd]; exact line_ok ⟨p.dropLast, true, []⟩ hxb
          have hvl := vline_len hxb
          by_cases hb : mayB ⟨p.dropLast, true, []⟩ = true
          · rw [hb] at hm
            have hyes : vline ⟨p.dropLast, true, []⟩ = line ++ [10] → readN s = (readN (s.drop (i + line.length + 1))).map ((acc ++ [(⟨p.dropLast, true, []⟩ : Nod)]) ++ ·) := fun e => by
              rw [okX_yes hb e] at hI
              dsimp only at hI
              rw [map_appN] at hI
              rw [hrd]; exact hI
            have hno : vline ⟨p.dropLast, true, []⟩ ≠ line ++ [10] → readN s = none := fun e => by
              rw [okX_no fun q => e q.2] at hI; exact hI
            have hl2 : (acc ++ [(⟨p.dropLast, true, []⟩ : Nod)]).length ≤ i + line.length + 1 := by rw [List.length_append, List.length_singleton]; omega
            (repeat' ((conv=>whnf);first|with_reducible refine gA ?_|(with_reducible first|refine gB ?_|refine gZ (fun x hx hu=>?_)|refine gY (fun x hx=>?_)|refine gE ?_|refine Both.mk ?_ ?_|refine gS (fun h=>?_) (fun h=>?_)|refine Spl.nt ?_|refine Spl.mk (fun h=>?_) (fun h=>?_))))
            conv => whnf
            refine loop_rule ti_ok (fun j : Nat => j ≤ line.length) (fun j => rrS s acc i [(6, .d (.it .i64 (i + j : Nat)))]) (fun j => line.length - j) 0 (Nat.zero_le _) ⟨And.intro rfl (And.intro rfl (And.intro rfl (And.intro rfl trivial))), And.intro rfl trivial, rfl⟩ ?_
            intro j hj
            rcases Nat.lt_or_ge j line.length with hjl | hjl
            · obtain ⟨c, hcj⟩ := lt_get hjl
              have hcs : s[((i + j : Nat) : Int).toNat]? = some c := by rw [sub_at hd hjl (by omega)]; exact hcj
              have hcn : c.toNat ≠ 10 := hexe (hn10 c (List.mem_of_getElem? hcj)) (by decide)
              (repeat' ((conv=>whnf);first|with_reducible refine gA ?_|with_reducible refine at_is hcs ?_|(with_reducible first|refine gB ?_|refine gZ (fun x hx hu=>?_)|refine gY (fun x hx=>?_)|refine gE ?_|refine Both.mk ?_ ?_|refine gS (fun h=>?_) (fun h=>?_)|refine Spl.nt ?_|refine Spl.mk (fun h=>?_) (fun h=>?_))))
              refine again (j + 1) hjl (by dsimp only; omega) (And.intro (it_eq (by omega)) (And.intro rfl (And.intro rfl (And.intro rfl trivial)))) (And.intro rfl trivial) rfl
            · have hje : j = line.length := by omega
              subst hje
              (repeat' ((conv=>whnf);first|with_reducible refine gA ?_|with_reducible refine at_is he10 ?_|(with_reducible first|refine gB ?_|refine gZ (fun x hx hu=>?_)|refine gY (fun x hx=>?_)|refine gE ?_|refine Both.mk ?_ ?_|refine gS (fun h=>?_) (fun h=>?_)|refine Spl.nt ?_|refine Spl.mk (fun h=>?_) (fun h=>?_))))
              conv => whnf
              refine loop_rule ti_ok (fun j : Nat => j ≤ p.length) (fun j => rrS s acc i [(6, .d (.it .i64 (i + line.length : Nat))), (7, .d (.it .i64 (i + j : Nat)))]) (fun j => p.length - j) 0 (Nat.zero_le _) ⟨And.intro (it_eq (by omega)) (And.intro rfl (And.intro rfl (And.intro rfl (And.intro rfl trivial)))), And.intro rfl trivial, rfl⟩ ?_
              intro j hj
              rcases Nat.lt_or_ge j p.length with hjl | hjl
              · obtain ⟨c, hcj⟩ := lt_get hjl
                have hcs : s[((i + j : Nat) : Int).toNat]? = some c := by rw [sub_at hdp hjl (by omega)]; exact hcj
                have hcn : c.toNat ≠ 32 := hexe (hn32 c (List.mem_of_getElem? hcj)) (by decide)
                (repeat' ((conv=>whnf);first|with_reducible refine gA ?_|with_reducible refine at_is hcs ?_|(with_reducible first|refine gB ?_|refine gZ (fun x hx hu=>?_)|refine gY (fun x hx=>?_)|refine gE ?_|refine Both.mk ?_ ?_|refine gS (fun h=>?_) (fun h=>?_)|refine Spl.nt ?_|refine Spl.mk (fun h=>?_) (fun h=>?_))))
                refine again (j + 1) hjl (by dsimp only; omega) (And.intro rfl (And.intro (it_eq (by omega)) (And.intro rfl (And.intro rfl (And.intro rfl trivial))))) (And.intro rfl trivial) rfl
              · have hje : j = p.length := by omega
                subst hje
                (repeat' ((conv=>whnf);first|with_reducible refine gA ?_|with_reducible refine at_is he10 ?_ | ((with_reducible refine callE_id ?_); first | refine CallE.con ⟨_, hm, ?_⟩ | refine CallE.con ⟨_, hln, ?_⟩) | refine CallP.mk ⟨_, hm, ?_⟩ | refine CallP.mk ⟨_, hln, ?_⟩|(with_reducible first|refine gB ?_|refine gZ (fun x hx hu=>?_)|refine gY (fun x hx=>?_)|refine gE ?_|refine Both.mk ?_ ?_|refine gS (fun h=>?_) (fun h=>?_)|refine Spl.nt ?_|refine Spl.mk (fun h=>?_) (fun h=>?_))))
                · exact (congrArg readA (hno fun q => h (q.trans hX3.symm))).symm
                · have hI2 : rrI s (acc ++ [(⟨p.dropLast, true, []⟩ : Nod)], i + line.length + 1) := ⟨hyes (h.trans hX3), by show i + line.length + 1 ≤ _; omega, hl2⟩
                  refine again (acc ++ [(⟨p.dropLast, true, []⟩ : Nod)], i + line.length + 1) hI2 (by show s.length - (i + line.length + 1) < s.length - i; omega) (And.intro rfl (And.intro (tsN (by rw [List.map_append]; show _ ++ [([.st ((s.take (((i + p.length : Nat) : Int) - 1).toNat).drop ((i : Nat) : Int).toNat), .bl true, .st []] : List D)] = _; rw [hXd]; rfl)) (And.intro (it_eq (by dsimp only; omega)) trivial))) (And.intro rfl trivial) rfl
          · rw [Bool.eq_false_iff.2 hb] at hm
            have hI : readN s = none := by
              rw [okX_no fun q => hb q.1] at hI; exact hI
            rw [hI]
            (repeat' ((conv=>whnf);first|with_reducible refine gA ?_|(with_reducible first|refine gB ?_|refine gZ (fun x hx hu=>?_)|refine gY (fun x hx=>?_)|refine gE ?_|refine Both.mk ?_ ?_|refine gS (fun h=>?_) (fun h=>?_)|refine Spl.nt ?_|refine Spl.mk (fun h=>?_) (fun h=>?_))))
            conv => whnf
            refine loop_rule ti_ok (fun j : Nat => j ≤ line.length) (fun j => rrS s acc i [(6, .d (.it .i64 (i + j : Nat)))]) (fun j => line.length - j) 0 (Nat.zero_le _) ⟨And.intro rfl (And.intro rfl (And.intro rfl (And.intro rfl trivial))), And.intro rfl trivial, rfl⟩ ?_
            intro j hj
            rcases Nat.lt_or_ge j line.length with hjl | hjl
            · obtain ⟨c, hcj⟩ := lt_get hjl
              have hcs : s[((i + j : Nat) : Int).toNat]? = some c := by rw [sub_at hd hjl (by omega)]; exact hcj
              have hcn : c.toNat ≠ 10 := hexe (hn10 c (List.mem_of_getElem? hcj)) (by decide)
              (repeat' ((conv=>whnf);first|with_reducible refine gA ?_|with_reducible refine at_is hcs ?_|(with_reducible first|refine gB ?_|refine gZ (fun x hx hu=>?_)|refine gY (fun x hx=>?_)|refine gE ?_|refine Both.mk ?_ ?_|refine gS (fun h=>?_) (fun h=>?_)|refine Spl.nt ?_|refine Spl.mk (fun h=>?_) (fun h=>?_))))
              refine again (j + 1) hjl (by dsimp only; omega) (And.intro (it_eq (by omega)) (And.intro rfl (And.intro rfl (And.intro rfl trivial)))) (And.intro rfl trivial) rfl
            · have hje : j = line.length := by omega
              subst hje
              (repeat' ((conv=>whnf);first|with_reducible refine gA ?_|with_reducible refine at_is he10 ?_|(with_reducible first|refine gB ?_|refine gZ (fun x hx hu=>?_)|refine gY (fun x hx=>?_)|refine gE ?_|refine Both.mk ?_ ?_|refine gS (fun h=>?_) (fun h=>?_)|refine Spl.nt ?_|refine Spl.mk (fun h=>?_) (fun h=>?_))))
              conv => whnf
              refine loop_rule ti_ok (fun j : Nat => j ≤ p.length) (fun j => rrS s acc i [(6, .d (.it .i64 (i + line.length : Nat))), (7, .d (.it .i64 (i + j : Nat)))]) (fun j => p.length - j) 0 (Nat.zero_le _) ⟨And.intro (it_eq (by omega)) (And.intro rfl (And.intro rfl (And.intro rfl (And.intro rfl trivial)))), And.intro rfl trivial, rfl⟩ ?_
              intro j hj
              rcases Nat.lt_or_ge j p.length with hjl | hjl
              · obtain ⟨c, hcj⟩ := lt_get hjl
                have hcs : s[((i + j : Nat) : Int).toNat]? = some c := by rw [sub_at hdp hjl (by omega)]; exact hcj
                have hcn : c.toNat ≠ 32 := hexe (hn32 c (List.mem_of_getElem? hcj)) (by decide)
                (repeat' ((conv=>whnf);first|with_reducible refine gA ?_|with_reducible refine at_is hcs ?_|(with_reducible first|refine gB ?_|refine gZ (fun x hx hu=>?_)|refine gY (fun x hx=>?_)|refine gE ?_|refine Both.mk ?_ ?_|refine gS (fun h=>?_) (fun h=>?_)|refine Spl.nt ?_|refine Spl.mk (fun h=>?_) (fun h=>?_))))
                refine again (j + 1) hjl (by dsimp only; omega) (And.intro rfl (And.intro (it_eq (by omega)) (And.intro rfl (And.intro rfl (And.intro rfl trivial))))) (And.intro rfl trivial) rfl
              · have hje : j = p.length := by omega
                subst hje
                (repeat' ((conv=>whnf);first|with_reducible refine gA ?_|with_reducible refine at_is he10 ?_ | ((with_reducible refine callE_id ?_); first | refine CallE.con ⟨_, hm, ?_⟩ | refine CallE.con ⟨_, hln, ?_⟩) | refine CallP.mk ⟨_, hm, ?_⟩ | refine CallP.mk ⟨_, hln, ?_⟩|(with_reducible first|refine gB ?_|refine gZ (fun x hx hu=>?_)|refine gY (fun x hx=>?_)|refine gE ?_|refine Both.mk ?_ ?_|refine gS (fun h=>?_) (fun h=>?_)|refine Spl.nt ?_|refine Spl.mk (fun h=>?_) (fun h=>?_))))
                all_goals exact rfl
  · rw [List.drop_of_length_le (by omega), readN_nil] at hI
    rw [hI]
    (repeat' ((conv=>whnf);first|with_reducible refine gA ?_|(with_reducible first|refine gB ?_|refine gZ (fun x hx hu=>?_)|refine gY (fun x hx=>?_)|refine gE ?_|refine Both.mk ?_ ?_|refine gS (fun h=>?_) (fun h=>?_)|refine Spl.nt ?_|refine Spl.mk (fun h=>?_) (fun h=>?_))))
    show _ = AV.tup [.d (.fs 3 ((acc ++ []).map encN)), .d (.bl true)]
    rw [List.append_nil]
end Go.Proofs.YtijdbjjkfkjihaaGreatDoor
