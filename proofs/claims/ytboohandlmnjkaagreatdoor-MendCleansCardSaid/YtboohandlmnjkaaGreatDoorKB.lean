/- Contracts of the functions that the law reaches, and the law. Conditions: none. -/
import Derived.Test.YtboohandlmnjkaaGreatDoorKA
import Derived.Test.YtboohandlmnjkaaGreatDoorSC
import Derived.Test.YtboohandlmnjkaaGreatDoorSD
import Derived.Test.YtboohandlmnjkaaGreatDoorCards
import Derived.Test.YtboohandlmnjkaaGreatDoorTie
set_option linter.all false
/- Is it mounted? An image with writes over it. Conditions: none. -/
namespace Go.Proofs.YtboohandlmnjkaaGreatDoor
open Go.Sy
set_option maxRecDepth 100000
set_option linter.all false
/-- All sectors of a disk, as they are read. -/
def imgD (d : Option Dk) : List (List UInt8) := match d with
  | none => []
  | some dk => (List.range dk.safe.length).map fun k : Nat => rdS d (k : Nat)
theorem imgD_ok {d : Option Dk} (h : DkOK d) : ImOK (imgD d) := by
  intro s hs
  cases d with
  | none => cases hs
  | some dk =>
    obtain ⟨k, _, rfl⟩ := List.mem_map.1 hs
    exact rdS_len h _
theorem chunk1 {l : List D} {n : Nat} (h : l.length = n) : chunk n 1 ([] ++ l ++ []) = [l] := by
  show [([] ++ l ++ []).take n] = _
  rw [List.nil_append, List.append_nil, List.take_of_length_le (by omega)]
theorem vx_eq {sz n i a b : Nat} (h : a = b) : AV.vx sz n i a = AV.vx sz n i b := by rw [h]
def mtA (d : Option Dk) (i : Nat) : S := ⟨[(0, .d (encD d)), (3, .ts 32 (((List.range i).map fun k : Nat => rdS d (k : Nat)).map encS) 0), (7, .d (.it .i64 (i : Nat)))], [(0, .tail 41 true)], 1⟩
set_option maxHeartbeats 4000000 in
theorem mounted_ok (d : Option Dk) (hd : DkOK d) : FnC Tryz.prog 9 [.d (encD d)] (.d (.bl (decide (mntP (imgD d))))) := by
  have hm := mounts_ok _ (imgD_ok hd)
  have hil : (imgD d).length ≤ 65 := by
    cases d with
    | none => exact Nat.zero_le _
    | some dk =>
      show ((List.range dk.safe.length).map _).length ≤ 65
      rw [List.length_map, List.length_range]; exact hd.2.2.1
  have hhas : ∀ i : Nat, hasP d i ↔ i < (imgD d).length := fun i => by
    cases d with
    | none => exact ⟨fun h => h.elim, fun h => absurd h (Nat.not_lt_zero _)⟩
    | some dk =>
      show (0 ≤ (i : Int) ∧ (i : Int) < dk.safe.length) ↔ i < ((List.range dk.safe.length).map _).length
      rw [List.length_map, List.length_range]; omega
  have himg : ((List.range (imgD d).length).map fun k : Nat => rdS d (k : Nat)) = imgD d := by
    cases d with
    | none => rfl
    | some dk =>
      show ((List.range ((List.range dk.safe.length).map _).length).map _) = _
      rw [List.length_map, List.length_range]; rfl
  refine FnC.intro ti_ok Tryz.func9 rfl Tryz.ntmps9 Tryz.call9 rfl (Nat.le_of_ble_eq_true rfl) rfl ?_
  (repeat' ((conv=>whnf);first|with_reducible refine gA ?_|(with_reducible first|refine gB ?_|refine gZ (fun x hx hu=>?_)|refine gY (fun x hx=>?_)|refine gE ?_|refine Both.mk ?_ ?_|refine gS (fun h=>?_) (fun h=>?_)|refine Spl.nt ?_|refine Spl.mk (fun h=>?_) (fun h=>?_))))
  refine loop_rule ti_ok (fun i : Nat => i ≤ (imgD d).length) (mtA d) (fun i => 66 - i) 0 (Nat.zero_le _) ⟨And.intro rfl (And.intro rfl (And.intro rfl trivial)), And.intro rfl trivial, rfl⟩ ?_
  intro i hi
  have hr := read_ok d hd i
  have hlen : (((List.range i).map fun k : Nat => rdS d (k : Nat)).map encS).length = i := by simp
  rcases Nat.lt_or_ge i (imgD d).length with hlt | hge
  · rw [show rdE d i = 0 from if_pos ((hhas i).2 hlt)] at hr
    have hs := rdS_len hd i
    have hrl : (List.range i).length = i := List.length_range
    (repeat' ((conv=>whnf);first|with_reducible refine gA ?_|((with_reducible refine callE_id ?_); (refine CallE.con ⟨_, hr, ?_⟩)) | ((with_reducible refine letC_id ?_); refine LetC.mk ((encS (rdS d i)).map AV.d) (st_all _) ?_) | ((with_reducible refine atA_id ?_); refine AtA.eq (ld_sec rfl rfl hs) ?_)|(with_reducible first|refine gB ?_|refine gZ (fun x hx hu=>?_)|refine gY (fun x hx=>?_)|refine gE ?_|refine Both.mk ?_ ?_|refine gS (fun h=>?_) (fun h=>?_)|refine Spl.nt ?_|refine Spl.mk (fun h=>?_) (fun h=>?_))))
    refine again (i + 1) (by omega) (by dsimp only; omega) (And.intro rfl (And.intro (ts_eq ?_) (And.intro (it_eq (by omega)) trivial))) (And.intro rfl trivial) rfl
    rw [List.range_succ, List.map_append, List.map_append]
    exact congrArg _ (chunk1 (by rw [encS_len]; exact hs))
  · have hie : i = (imgD d).length := by omega
    rw [show rdE d i = 1 from if_neg (fun q => by have := (hhas i).1 q; omega)] at hr
    have hmi : FnC Tryz.prog 30 [.d (.fs 32 ((((List.range i).map fun k : Nat => rdS d (k : Nat))).map encS))] (.d (.bl (decide (mntP (imgD d))))) := by rw [hie, himg]; exact hm
    by_cases h65 : i < 65
    · (repeat' ((conv=>whnf);first|with_reducible refine gA ?_|((with_reducible refine callE_id ?_); first | (refine CallE.con ⟨_, hr, ?_⟩) | (refine CallE.con ⟨_, hmi, ?_⟩)) | ((with_reducible refine letC_id ?_); refine LetC.mk ((encS (rdS d i)).map AV.d) (st_all _) ?_)|(with_reducible first|refine gB ?_|refine gZ (fun x hx hu=>?_)|refine gY (fun x hx=>?_)|refine gE ?_|refine Both.mk ?_ ?_|refine gS (fun h=>?_) (fun h=>?_)|refine Spl.nt ?_|refine Spl.mk (fun h=>?_) (fun h=>?_))))
      rfl
    · (repeat' ((conv=>whnf);first|with_reducible refine gA ?_|((with_reducible refine callE_id ?_); (refine CallE.con ⟨_, hmi, ?_⟩))|(with_reducible first|refine gB ?_|refine gZ (fun x hx hu=>?_)|refine gY (fun x hx=>?_)|refine gE ?_|refine Both.mk ?_ ?_|refine gS (fun h=>?_) (fun h=>?_)|refine Spl.nt ?_|refine Spl.mk (fun h=>?_) (fun h=>?_))))
      rfl
end Go.Proofs.YtboohandlmnjkaaGreatDoor

/- The entry of a name in a folder; the inode at a path. Conditions: none. -/
namespace Go.Proofs.YtboohandlmnjkaaGreatDoor
open Go.Sy
set_option maxRecDepth 100000
set_option linter.all false
/-- Does a name stand by entry k? -/
def stdP (f : Int → List UInt8) (p : Int) (k : Nat) : Prop := (entAt f k).u = true ∧ (entAt f k).p = p ∧ (inoAt f (entAt f k).t).k ≠ 0
instance (f : Int → List UInt8) (p : Int) (k : Nat) : Decidable (stdP f p k) := by unfold stdP; infer_instance
def fndP (f : Int → List UInt8) (p : Int) (s : List UInt8) (k : Nat) : Prop := stdP f p k ∧ (entAt f k).n = s
instance (f : Int → List UInt8) (p : Int) (s : List UInt8) (k : Nat) : Decidable (fndP f p s k) := by unfold fndP; infer_instance
def fndK (f : Int → List UInt8) (p : Int) (s : List UInt8) : Option Nat := (List.range 24).find? fun k => decide (fndP f p s k)
end Go.Proofs.YtboohandlmnjkaaGreatDoor

/- All names in a folder. Conditions: none. -/
namespace Go.Proofs.YtboohandlmnjkaaGreatDoor
open Go.Sy
set_option maxRecDepth 100000
set_option linter.all false
/-- The names that stand in a folder by the first k entries. -/
def nmsK (f : Int → List UInt8) (p : Int) (k : Nat) : List (List UInt8) := ((List.range k).filter fun j => decide (stdP f p j)).map fun j : Nat => (entAt f (j : Nat)).n
theorem letE_id {e : List (List D)} {K : List (List D) → Prop} (h : LetE e K) : LetE e K := h
end Go.Proofs.YtboohandlmnjkaaGreatDoor

/- What is at a path. Conditions: none. -/
namespace Go.Proofs.YtboohandlmnjkaaGreatDoor
open Go.Sy
set_option maxRecDepth 100000
set_option linter.all false
def stepV (f : Int → List UInt8) (n : Int) (s : List UInt8) : Int × Int := if (inoAt f n).k = 2 then (match fndK f n s with | none => (0, 4) | some k => ((entAt f (k : Nat)).t, 0)) else (0, 6)
def lkp (f : Int → List UInt8) : List (List UInt8) → Int → Int × Int
  | [], n => (n, 0)
  | s :: t, n => if (stepV f n s).2 = 0 then lkp f t (stepV f n s).1 else (0, (stepV f n s).2)
def lookP (f : Int → List UInt8) (p : List UInt8) : Int × Int := if (splitP p).2 = 0 then lkp f (splitP p).1 0 else (0, (splitP p).2)
end Go.Proofs.YtboohandlmnjkaaGreatDoor

/- A disk and an image with writes over it read alike. Conditions: none. -/
namespace Go.Proofs.YtboohandlmnjkaaGreatDoor
open Go.Sy
set_option maxRecDepth 100000
set_option linter.all false
theorem lastAt_snoc (n : Int) (l : List Wr) (x : Wr) : lastAt n (l ++ [x]) = if x.a = n then some x.s else lastAt n l := by
  unfold lastAt
  rw [List.reverse_append]
  simp only [List.reverse_cons, List.reverse_nil, List.nil_append, List.singleton_append, List.find?_cons]
  by_cases h : x.a = n
  · simp [h]
  · simp [h]
theorem dsk_OK {m : List (List UInt8)} {ws : List Wr} (hm : ImOK m) (hw : WsOK ws) (hwl : ws.length ≤ 1000) : DkOK (dskOf m ws) := by
  unfold dskOf
  split
  · rename_i h
    refine ⟨hm, fun w hw' => ?_, h.2, ?_⟩
    · have hw' : w ∈ (ws.filter (okW m.length)).map fun w => { w with e := 0 } := hw'
      obtain ⟨x, hx, rfl⟩ := List.mem_map.1 hw'
      exact hw x (List.mem_filter.1 hx).1
    · show ((ws.filter (okW m.length)).map _).length ≤ 100000
      rw [List.length_map]
      have := List.length_filter_le (okW m.length) ws
      omega
  · trivial
end Go.Proofs.YtboohandlmnjkaaGreatDoor

/- The law. Conditions: none. -/
namespace Go.Proofs.YtboohandlmnjkaaGreatDoor
open Go.Sy
set_option maxRecDepth 100000
set_option linter.all false
def folderS : List UInt8 := [2, 0, 0, 0, 0, 0, 0, 0, 0, 0, 0, 0, 0, 0, 0, 0, 0, 0, 0, 0, 0, 0, 0, 0, 0, 0, 0, 0, 0, 0, 0, 0]
def emptyM : List (List UInt8) := superS :: folderS :: List.replicate 63 zeroS
def k1S : List UInt8 := [1, 0, 2, 1, 0, 0, 0, 0, 0, 0, 0, 0, 0, 0, 0, 0, 97, 0, 0, 0, 0, 0, 0, 0, 0, 0, 0, 0, 0, 0, 0, 0]
def k2S : List UInt8 := [1, 0, 0, 0, 0, 0, 0, 0, 0, 0, 0, 0, 0, 0, 0, 0, 0, 0, 0, 0, 0, 0, 0, 0, 0, 0, 0, 0, 0, 0, 0, 0]
def kW : List Wr := [⟨17, k1S, 0, 0, 0⟩, ⟨3, k2S, 0, 0, 0⟩]
theorem em_ok : ImOK emptyM := by
  intro s hs
  simp only [emptyM, List.mem_cons, List.mem_replicate] at hs
  rcases hs with rfl | rfl | ⟨_, rfl⟩ <;> rfl
theorem empty_ok : FnC Tryz.prog 21 [] (.d (encM emptyM)) := by
  have hs := refSuper_ok
  refine FnC.intro ti_ok Tryz.func21 rfl Tryz.ntmps21 Tryz.call21 rfl (Nat.le_of_ble_eq_true rfl) rfl ?_
  (repeat' ((conv=>whnf);first|with_reducible refine gA ?_|((with_reducible refine callE_id ?_); (refine CallE.con ⟨_, hs, ?_⟩))|(with_reducible first|refine gB ?_|refine gZ (fun x hx hu=>?_)|refine gY (fun x hx=>?_)|refine gE ?_|refine Both.mk ?_ ?_|refine gS (fun h=>?_) (fun h=>?_)|refine Spl.nt ?_|refine Spl.mk (fun h=>?_) (fun h=>?_))))
  refine ⟨emptyM.map encS, ⟨?_, ?_, ?_, ?_⟩, ?_⟩
  · exact Nat.le_of_ble_eq_true (by kernel_rfl)
  · kernel_rfl
  · intro x hx
    obtain ⟨s, hs, rfl⟩ := List.mem_map.1 hx
    rw [encS_len]; exact em_ok s hs
  · kernel_rfl
  · rfl
def kD : Option Dk := dskOf emptyM kW
theorem f1 : lookP (rdS kD) [47, 97] = (2, 0) := by decide +kernel
theorem f2 : fndK (rdS kD) 0 [97] = some 0 := by decide +kernel
theorem f3 : lookP (rdS kD) [47, 98] = (0, 4) := by decide +kernel
theorem f4 : mntP (imgD kD) := by decide +kernel
theorem f5 : nmsK (rdS kD) 0 24 = [[97]] := by decide +kernel
theorem f6 : takP (rdS kD) 2 := by decide +kernel
theorem f8 : (entAt (rdS kD) 0).n = [97] := by decide +kernel
end Go.Proofs.YtboohandlmnjkaaGreatDoor

/- The law, whole. Conditions: none. -/
namespace Go.Proofs.YtboohandlmnjkaaGreatDoor
open Go.Sy
set_option maxRecDepth 100000
set_option linter.all false
end Go.Proofs.YtboohandlmnjkaaGreatDoor

/- Which inodes are reached: sets that grow. Conditions: none. -/
namespace Go.Proofs.YtboohandlmnjkaaGreatDoor
open Go.Sy
set_option maxRecDepth 100000
set_option linter.all false
/-- One entry: its target is reached, if its folder is. -/
def stepR (kd : Int → Int) (R : List Bool) (x : Ent) : List Bool :=
  if x.u = true ∧ R.getD x.p.toNat false = true ∧ kd x.p = 2 ∧ kd x.t ≠ 0 then R.set x.t.toNat true else R
def passR (kd : Int → Int) (E : List Ent) (R : List Bool) : List Bool := E.foldl (stepR kd) R
def iterR (kd : Int → Int) (E : List Ent) : Nat → List Bool → List Bool
  | 0, R => R
  | n + 1, R => iterR kd E n (passR kd E R)
def cntR (R : List Bool) : Nat := R.countP (fun b => b)
theorem cntR_set : ∀ (R : List Bool) (i : Nat), i < R.length → R.getD i false = false → cntR (R.set i true) = cntR R + 1
  | [], i, h, _ => by cases h
  | b :: R, 0, _, h => by
    have h : b = false := h
    subst h
    simp [cntR]
  | b :: R, i + 1, h, h2 => by
    have ih := cntR_set R i (by simpa using h) (by simpa [List.getD] using h2)
    unfold cntR at ih ⊢
    rw [List.set_cons_succ, List.countP_cons, List.countP_cons, ih]; omega
theorem set_same : ∀ (R : List Bool) (i : Nat), R.getD i false = true → R.set i true = R
  | [], i, _ => rfl
  | b :: R, 0, h => by
    have h : b = true := h
    subst h; rfl
  | b :: R, i + 1, h => by rw [List.set_cons_succ, set_same R i (by simpa [List.getD] using h)]
theorem set_out (R : List Bool) (i : Nat) (h : R.length ≤ i) : R.set i true = R := List.set_eq_of_length_le h
/-- Does an entry turn the set? -/
def turnsR (kd : Int → Int) (R : List Bool) (x : Ent) : Prop := x.u = true ∧ R.getD x.p.toNat false = true ∧ kd x.p = 2 ∧ kd x.t ≠ 0 ∧ R.getD x.t.toNat false = false ∧ x.t.toNat < R.length
instance (kd : Int → Int) (R : List Bool) (x : Ent) : Decidable (turnsR kd R x) := by unfold turnsR; infer_instance
theorem stepR_len (kd : Int → Int) (R : List Bool) (x : Ent) : (stepR kd R x).length = R.length := by unfold stepR; split <;> simp
theorem stepR_yes {kd : Int → Int} {R : List Bool} {x : Ent} (h : turnsR kd R x) : stepR kd R x = R.set x.t.toNat true ∧ cntR (stepR kd R x) = cntR R + 1 := by
  obtain ⟨h1, h2, h3, h4, h5, h6⟩ := h
  have e : stepR kd R x = R.set x.t.toNat true := if_pos ⟨h1, h2, h3, h4⟩
  exact ⟨e, by rw [e]; exact cntR_set R _ h6 h5⟩
theorem stepR_no {kd : Int → Int} {R : List Bool} {x : Ent} (h : ¬ turnsR kd R x) : stepR kd R x = R := by
  unfold stepR
  split
  · rename_i h1
    rcases Nat.lt_or_ge x.t.toNat R.length with h6 | h6
    · cases hb : R.getD x.t.toNat false with
      | true => exact set_same R _ hb
      | false => exact (h ⟨h1.1, h1.2.1, h1.2.2.1, h1.2.2.2, hb, h6⟩).elim
    · exact set_out R _ h6
  · rfl
theorem stepR_cnt (kd : Int → Int) (R : List Bool) (x : Ent) : cntR R ≤ cntR (stepR kd R x) := by
  by_cases h : turnsR kd R x
  · rw [(stepR_yes h).2]; omega
  · rw [stepR_no h]; exact Nat.le_refl _
theorem passR_len (kd : Int → Int) : ∀ (E : List Ent) (R : List Bool), (passR kd E R).length = R.length
  | [], R => rfl
  | x :: E, R => by
    show (passR kd E (stepR kd R x)).length = _
    rw [passR_len kd E, stepR_len]
theorem passR_cnt (kd : Int → Int) : ∀ (E : List Ent) (R : List Bool), cntR R ≤ cntR (passR kd E R)
  | [], R => Nat.le_refl _
  | x :: E, R => Nat.le_trans (stepR_cnt kd R x) (passR_cnt kd E (stepR kd R x))
theorem passR_snoc (kd : Int → Int) {E : List Ent} {k : Nat} {x : Ent} (h : E[k]? = some x) (R : List Bool) : passR kd (E.take (k + 1)) R = stepR kd (passR kd (E.take k) R) x := by
  unfold passR
  rw [List.take_add_one, h, List.foldl_append]; rfl
theorem cntR_le (R : List Bool) : cntR R ≤ R.length := List.countP_le_length
theorem iterR_add (kd : Int → Int) (E : List Ent) : ∀ (n m : Nat) (R : List Bool), iterR kd E (n + m) R = iterR kd E m (iterR kd E n R)
  | 0, m, R => by rw [Nat.zero_add]; rfl
  | n + 1, m, R => by
    rw [show n + 1 + m = (n + m) + 1 by omega]
    exact iterR_add kd E n m (passR kd E R)
theorem iterR_fix (kd : Int → Int) (E : List Ent) {R : List Bool} (h : passR kd E R = R) : ∀ n, iterR kd E n R = R
  | 0 => rfl
  | n + 1 => by show iterR kd E n (passR kd E R) = R; rw [h]; exact iterR_fix kd E h n
theorem iterR_len (kd : Int → Int) (E : List Ent) : ∀ (n : Nat) (R : List Bool), (iterR kd E n R).length = R.length
  | 0, R => rfl
  | n + 1, R => by show (iterR kd E n (passR kd E R)).length = _; rw [iterR_len kd E n, passR_len]
def R0 : List Bool := true :: List.replicate 15 false
/-- Which inodes are reached. -/
def reachR (kd : Int → Int) (E : List Ent) : List Bool := iterR kd E 16 R0
/-- A set that no pass turns, behind at most 16 of them. -/
theorem reach_at (kd : Int → Int) (E : List Ent) {j : Nat} (hj : j ≤ 16) (h : passR kd E (iterR kd E j R0) = iterR kd E j R0) : iterR kd E j R0 = reachR kd E := by
  unfold reachR
  rw [show 16 = j + (16 - j) by omega, iterR_add, iterR_fix kd E h]
def blks (x : Ino) : List Int := [x.b0, x.b1, x.b2, x.b3]
/-- The problems of entries by the first q pairs of a kind and an entry. -/
def prbK (P : Nat → Nat → Bool) (q : Nat) : List (Int × Int) := ((List.range q).filter fun j => P (j / 24 + 1) (j % 24)).map fun j => (((j / 24 + 1 : Nat) : Int), ((j % 24 : Nat) : Int))
/-- Those of blocks, by the first q blocks. -/
def prbB (own : Nat → Nat) (q : Nat) : List (Int × Int) := ((List.range q).filter fun j => decide (1 < own (j + 1))).map fun j => (6, ((j + 1 : Nat) : Int))
theorem prbK_yes {P : Nat → Nat → Bool} {i k : Nat} (hk : k < 24) (h : P (i + 1) k = true) : prbK P (24 * i + (k + 1)) = prbK P (24 * i + k) ++ [(((i + 1 : Nat) : Int), (k : Int))] := by
  unfold prbK
  rw [show 24 * i + (k + 1) = (24 * i + k) + 1 by omega, List.range_succ, List.filter_append, List.map_append]
  have e1 : (24 * i + k) / 24 = i := by omega
  have e2 : (24 * i + k) % 24 = k := by omega
  have e3 : (24 * (i : Int) + k) / 24 = i := by omega
  have e4 : (k : Int) % 24 = k := by omega
  simp [e1, e2, e3, e4, h]
theorem prbK_no {P : Nat → Nat → Bool} {i k : Nat} (hk : k < 24) (h : P (i + 1) k = false) : prbK P (24 * i + (k + 1)) = prbK P (24 * i + k) := by
  unfold prbK
  rw [show 24 * i + (k + 1) = (24 * i + k) + 1 by omega, List.range_succ, List.filter_append, List.map_append]
  have e1 : (24 * i + k) / 24 = i := by omega
  have e2 : (24 * i + k) % 24 = k := by omega
  simp [e1, e2, h]
theorem prbB_yes {own : Nat → Nat} {k : Nat} (h : 1 < own (k + 1)) : prbB own (k + 1) = prbB own k ++ [(6, ((k + 1 : Nat) : Int))] := by
  unfold prbB
  rw [List.range_succ, List.filter_append, List.map_append]
  simp [h]
theorem prbB_no {own : Nat → Nat} {k : Nat} (h : ¬ 1 < own (k + 1)) : prbB own (k + 1) = prbB own k := by
  unfold prbB
  rw [List.range_succ, List.filter_append, List.map_append]
  simp [h]
theorem prbK_len (P : Nat → Nat → Bool) (q : Nat) : (prbK P q).length ≤ q := by
  unfold prbK
  rw [List.length_map]
  exact Nat.le_trans (List.length_filter_le _ _) (by rw [List.length_range]; exact Nat.le_refl _)
theorem prbB_len (own : Nat → Nat) (q : Nat) : (prbB own q).length ≤ q := by
  unfold prbB
  rw [List.length_map]
  exact Nat.le_trans (List.length_filter_le _ _) (by rw [List.length_range]; exact Nat.le_refl _)
end Go.Proofs.YtboohandlmnjkaaGreatDoor

/- Elements of a row of cells, read and set. Conditions: none. -/
namespace Go.Proofs.YtboohandlmnjkaaGreatDoor
open Go.Sy
set_option maxRecDepth 100000
set_option linter.all false
theorem splice {α : Type} (pre M post l : List α) (j : Nat) (h : j + l.length ≤ M.length) :
    (pre ++ M ++ post).take (pre.length + j) ++ l ++ (pre ++ M ++ post).drop (pre.length + j + l.length) = pre ++ (M.take j ++ l ++ M.drop (j + l.length)) ++ post := by
  have e1 : (pre ++ M ++ post).take (pre.length + j) = pre ++ M.take j := by
    rw [List.append_assoc, List.take_append, List.take_of_length_le (by omega), List.take_append]
    rw [show pre.length + j - pre.length = j by omega, show j - M.length = 0 by omega]
    simp
  have e2 : (pre ++ M ++ post).drop (pre.length + j + l.length) = M.drop (j + l.length) ++ post := by
    rw [List.append_assoc, List.drop_append, List.drop_eq_nil_of_le (by omega), List.nil_append, List.drop_append]
    rw [show pre.length + j + l.length - pre.length = j + l.length by omega, show j + l.length - M.length = 0 by omega]
    simp
  rw [e1, e2]
  simp only [List.append_assoc]
theorem fm_len {α β : Type} {enc : α → List β} {sz : Nat} (h : ∀ x, (enc x).length = sz) : ∀ L : List α, (L.flatMap enc).length = L.length * sz
  | [] => by simp
  | x :: L => by rw [List.flatMap_cons, List.length_append, h, fm_len h L, List.length_cons, Nat.add_mul]; omega
theorem fm_take {α β : Type} {enc : α → List β} {sz : Nat} (h : ∀ x, (enc x).length = sz) : ∀ (L : List α) (i : Nat), (L.flatMap enc).take (i * sz) = (L.take i).flatMap enc
  | [], i => by simp
  | x :: L, 0 => by simp
  | x :: L, i + 1 => by
    rw [List.take_succ_cons, List.flatMap_cons, List.flatMap_cons, Nat.add_mul, Nat.one_mul, List.take_append, List.take_of_length_le (by rw [h]; omega), h, show i * sz + sz - sz = i * sz by omega, fm_take h L i]
theorem fm_drop {α β : Type} {enc : α → List β} {sz : Nat} (h : ∀ x, (enc x).length = sz) : ∀ (L : List α) (i : Nat), (L.flatMap enc).drop (i * sz) = (L.drop i).flatMap enc
  | [], i => by simp
  | x :: L, 0 => by simp
  | x :: L, i + 1 => by
    rw [List.drop_succ_cons, List.flatMap_cons, Nat.add_mul, Nat.one_mul, List.drop_append, List.drop_eq_nil_of_le (by rw [h]; omega), h, show i * sz + sz - sz = i * sz by omega, fm_drop h L i, List.nil_append]
theorem fm_set {α β : Type} {enc : α → List β} {sz : Nat} (h : ∀ x, (enc x).length = sz) (L : List α) (i : Nat) (x : α) (hi : i < L.length) :
    (L.flatMap enc).take (i * sz) ++ enc x ++ (L.flatMap enc).drop (i * sz + (enc x).length) = (L.set i x).flatMap enc := by
  rw [h, show i * sz + sz = (i + 1) * sz by rw [Nat.add_mul]; omega, fm_take h, fm_drop h, List.set_eq_take_append_cons_drop, if_pos hi, List.flatMap_append, List.flatMap_cons, List.append_assoc]
/-- An element in the midst. -/
theorem fm_at {α β : Type} {enc : α → List β} {sz : Nat} (h : ∀ x, (enc x).length = sz) (pre post : List β) (L : List α) (i : Nat) (x : α) (hx : L[i]? = some x) :
    ((pre ++ L.flatMap enc ++ post).drop (pre.length + i * sz)).take sz = enc x := by
  have hi := (List.getElem?_eq_some_iff.1 hx).1
  have e2 : (pre ++ L.flatMap enc ++ post).drop (pre.length + i * sz) = (L.drop i).flatMap enc ++ post := by
    rw [List.append_assoc, List.drop_append, List.drop_eq_nil_of_le (by omega), List.nil_append, List.drop_append]
    rw [show pre.length + i * sz - pre.length = i * sz by omega, fm_drop h]
    have : i * sz - (L.flatMap enc).length = 0 := by
      rw [fm_len h]
      have := Nat.mul_le_mul_right sz (Nat.le_of_lt hi)
      omega
    rw [this]; simp
  have e3 : L.drop i = x :: L.drop (i + 1) := by
    rw [List.drop_eq_getElem_cons hi, (List.getElem?_eq_some_iff.1 hx).2]
  rw [e2, e3, List.flatMap_cons, List.append_assoc, List.take_append_of_le_length (by rw [h]; omega), List.take_of_length_le (by rw [h]; omega)]
theorem fm_setM {α β : Type} {enc : α → List β} {sz : Nat} (h : ∀ x, (enc x).length = sz) (pre post : List β) (L : List α) (i : Nat) (x : α) (hi : i < L.length) {a b : Nat} (ha : a = pre.length + i * sz) (hb : b = a + sz) :
    (pre ++ L.flatMap enc ++ post).take a ++ enc x ++ (pre ++ L.flatMap enc ++ post).drop b = pre ++ (L.set i x).flatMap enc ++ post := by
  subst ha hb
  have hl : i * sz + (enc x).length ≤ (L.flatMap enc).length := by
    rw [fm_len h, h]
    have := Nat.mul_le_mul_right sz hi
    rw [Nat.succ_mul] at this; exact this
  have := splice pre (L.flatMap enc) post (enc x) (i * sz) hl
  rw [fm_set h L i x hi, h] at this
  exact this
end Go.Proofs.YtboohandlmnjkaaGreatDoor

/- What the checker has: its cells; is an entry sound? Conditions: none. -/
namespace Go.Proofs.YtboohandlmnjkaaGreatDoor
open Go.Sy
set_option maxRecDepth 100000
set_option linter.all false
def encX (d : Option Dk) (I : List Ino) (E : List Ent) (R : List Bool) : List D := [encD d] ++ I.flatMap encI ++ E.flatMap encE ++ R.flatMap fun b => [D.bl b]
theorem encI_len (x : Ino) : (encI x).length = 6 := rfl
theorem encE_len (x : Ent) : (encE x).length = 4 := rfl
structure XOK (I : List Ino) (E : List Ent) (R : List Bool) : Prop where
  i : I.length = 16
  e : E.length = 24
  r : R.length = 16
  p : ∀ x ∈ E, x.u = true → 0 ≤ x.p ∧ x.p < 16 ∧ 1 ≤ x.t ∧ x.t < 16
section
variable {d : Option Dk} {I : List Ino} {E : List Ent} {R : List Bool}
theorem x_len (h : XOK I E R) : (encX d I E R).length = 209 := by
  unfold encX
  simp only [List.length_append, fm_len encI_len, fm_len encE_len, fm_len (enc := fun b => [D.bl b]) (sz := 1) (fun _ => rfl), h.i, h.e, h.r]; rfl
theorem x_d1 : (encX d I E R).drop 1 = I.flatMap encI ++ E.flatMap encE ++ R.flatMap fun b => [D.bl b] := rfl
theorem x_d97 (h : XOK I E R) : (encX d I E R).drop 97 = E.flatMap encE ++ R.flatMap fun b => [D.bl b] := by
  unfold encX
  rw [List.append_assoc, List.drop_append, List.drop_eq_nil_of_le (by simp [fm_len encI_len, h.i]), List.nil_append]
  simp [fm_len encI_len, h.i]
theorem x_d193 (h : XOK I E R) : (encX d I E R).drop 193 = R.flatMap fun b => [D.bl b] := by
  unfold encX
  rw [List.drop_append, List.drop_eq_nil_of_le (by simp [fm_len encI_len, fm_len encE_len, h.i, h.e]), List.nil_append]
  simp [fm_len encI_len, fm_len encE_len, h.i, h.e]
theorem at_R {n : Int} {b : Bool} (hb : R[n.toNat]? = some b) : ((R.flatMap fun b => [D.bl b]).drop (n.toNat * 1)).take 1 = [.bl b] := by
  have := fm_at (enc := fun b => [D.bl b]) (sz := 1) (fun _ => rfl) [] [] R n.toNat b hb
  simpa using this
theorem at_I {n : Int} {x : Ino} (hx : I[n.toNat]? = some x) : ((I.flatMap encI ++ E.flatMap encE ++ R.flatMap fun b => [D.bl b]).drop (n.toNat * 6)).take 6 = encI x := by
  have := fm_at encI_len [] (E.flatMap encE ++ R.flatMap fun b => [D.bl b]) I n.toNat x hx
  simpa using this
theorem at_E {n : Int} {x : Ent} (hx : E[n.toNat]? = some x) : ((E.flatMap encE ++ R.flatMap fun b => [D.bl b]).drop (n.toNat * 4)).take 4 = encE x := by
  have := fm_at encE_len [] (R.flatMap fun b => [D.bl b]) E n.toNat x hx
  simpa using this
end
/-- Is an entry used, and in a folder that is reached? -/
def sndP (I : List Ino) (R : List Bool) (x : Ent) : Prop := x.u = true ∧ R.getD x.p.toNat false = true ∧ (I.getD x.p.toNat ino0).k = 2
instance (I : List Ino) (R : List Bool) (x : Ent) : Decidable (sndP I R x) := by unfold sndP; infer_instance
set_option maxHeartbeats 8000000 in
theorem sound_ok {d : Option Dk} {I : List Ino} {E : List Ent} {R : List Bool} (h : XOK I E R) {x : Ent} (hx : x ∈ E) : FnC Tryz.prog 77 [.d (.fp 209 (encX d I E R)), .dg 4 (encE x)] (.d (.bl (decide (sndP I R x)))) := by
  have h193 := x_d193 (d := d) h
  cases hu : x.u with
  | false =>
    have hxe : encE x = [.bl false, .it .i64 x.p, .st x.n, .it .i64 x.t] := by rw [encE, hu]
    rw [hxe]
    refine FnC.intro ti_ok Tryz.func77 rfl Tryz.ntmps77 Tryz.call77 rfl (Nat.le_of_ble_eq_true rfl) rfl ?_
    (repeat' ((conv=>whnf);first|with_reducible refine gA ?_|(with_reducible first|refine gB ?_|refine gZ (fun x hx hu=>?_)|refine gY (fun x hx=>?_)|refine gE ?_|refine Both.mk ?_ ?_|refine gS (fun h=>?_) (fun h=>?_)|refine Spl.nt ?_|refine Spl.mk (fun h=>?_) (fun h=>?_))))
    exact bl_ff (fun q => by rw [q.1] at hu; cases hu)
  | true =>
    have hxe : encE x = [.bl true, .it .i64 x.p, .st x.n, .it .i64 x.t] := by rw [encE, hu]
    rw [hxe]
    obtain ⟨p1, p2, _, _⟩ := h.p x hx hu
    obtain ⟨r, hr⟩ := lt_get (l := R) (k := x.p.toNat) (by rw [h.r]; omega)
    obtain ⟨y, hy⟩ := lt_get (l := I) (k := x.p.toNat) (by rw [h.i]; omega)
    have hP : sndP I R x ↔ r = true ∧ y.k = 2 := by
      unfold sndP
      rw [List.getD_eq_getElem?_getD, hr, List.getD_eq_getElem?_getD, hy]
      exact ⟨fun q => q.2, fun q => ⟨hu, q⟩⟩
    have hR := at_R hr
    have hI := at_I (E := E) (R := R) hy
    cases r with
    | false =>
      refine FnC.intro ti_ok Tryz.func77 rfl Tryz.ntmps77 Tryz.call77 rfl (Nat.le_of_ble_eq_true rfl) rfl ?_
      (repeat' ((conv=>whnf);first|with_reducible refine gA ?_|((with_reducible refine atD_id ?_); first | refine AtD.eq h193 ?_ | refine AtD.eq hR ?_ | refine AtD.eq hI ?_ | refine AtD.now ?_)|(with_reducible first|refine gB ?_|refine gZ (fun x hx hu=>?_)|refine gY (fun x hx=>?_)|refine gE ?_|refine Both.mk ?_ ?_|refine gS (fun h=>?_) (fun h=>?_)|refine Spl.nt ?_|refine Spl.mk (fun h=>?_) (fun h=>?_))))
      exact bl_ff (fun q => by have := (hP.1 q).1; cases this)
    | true =>
      refine FnC.intro ti_ok Tryz.func77 rfl Tryz.ntmps77 Tryz.call77 rfl (Nat.le_of_ble_eq_true rfl) rfl ?_
      (repeat' ((conv=>whnf);first|with_reducible refine gA ?_|((with_reducible refine atD_id ?_); first | refine AtD.eq h193 ?_ | refine AtD.eq hR ?_ | refine AtD.eq hI ?_ | refine AtD.now ?_)|(with_reducible first|refine gB ?_|refine gZ (fun x hx hu=>?_)|refine gY (fun x hx=>?_)|refine gE ?_|refine Both.mk ?_ ?_|refine gS (fun h=>?_) (fun h=>?_)|refine Spl.nt ?_|refine Spl.mk (fun h=>?_) (fun h=>?_))))
      refine bl_of ?_
      rw [beq_iff_eq, hP]
      exact ⟨fun q => ⟨rfl, q⟩, fun q => q.2⟩
section
variable {d : Option Dk} {I : List Ino} {E : List Ent} {R : List Bool}
theorem ldX_R (h : XOK I E R) {n : Nat} {b : Bool} (hb : R[n]? = some b) {ty : Ty} (ha : ty.kd.agg = false) {off : Nat} (ho : off = 193 + n * 1) : ldA ty off ((encX d I E R).map AV.d) = .d (.bl b) := by
  subst ho
  unfold ldA
  rw [ha, cond_false, List.getD_eq_getElem?_getD, List.getElem?_map]
  have e := fm_at (enc := fun b => [D.bl b]) (sz := 1) (fun _ => rfl) [] [] R n b hb
  have e2 : (encX d I E R)[193 + n * 1]? = some (.bl b) := by
    have h1 : ((encX d I E R).drop 193)[n * 1]? = (encX d I E R)[193 + n * 1]? := List.getElem?_drop
    rw [← h1, x_d193 h]
    have h2 : (((R.flatMap fun b => [D.bl b]).drop (n * 1)).take 1)[0]? = some (.bl b) := by
      have : (((R.flatMap fun b => [D.bl b]).drop (n * 1)).take 1) = [.bl b] := by simpa using e
      rw [this]; rfl
    rw [List.getElem?_take, if_pos (by decide), List.getElem?_drop] at h2
    simpa using h2
  rw [e2]; rfl
theorem ldX_I (h : XOK I E R) {n : Nat} {x : Ino} (hx : I[n]? = some x) {ty : Ty} (ha : ty.kd.agg = false) {off : Nat} (ho : off = 1 + n * 6 + 0) : ldA ty off ((encX d I E R).map AV.d) = .d (.it .i64 x.k) := by
  subst ho
  unfold ldA
  rw [ha, cond_false, List.getD_eq_getElem?_getD, List.getElem?_map]
  have e := fm_at encI_len [encD d] (E.flatMap encE ++ R.flatMap fun b => [D.bl b]) I n x hx
  have e2 : (encX d I E R)[1 + n * 6]? = some (.it .i64 x.k) := by
    have h2 : (((encX d I E R).drop (1 + n * 6)).take 6)[0]? = some (.it .i64 x.k) := by
      have : ((encX d I E R).drop (1 + n * 6)).take 6 = encI x := by
        unfold encX
        rw [List.append_assoc ([encD d] ++ _)]
        exact e
      rw [this]; rfl
    rw [List.getElem?_take, if_pos (by decide), List.getElem?_drop] at h2
    simpa using h2
  rw [show 1 + n * 6 + 0 = 1 + n * 6 from rfl, e2]; rfl
theorem ldX_E (h : XOK I E R) {ty : Ty} (ha : ty.kd.agg = true) (hz : ty.size = 96) : ldA ty 97 ((encX d I E R).map AV.d) = .dg 96 (E.flatMap encE) := by
  unfold ldA
  rw [ha, cond_true, hz]
  have e : (((encX d I E R).map AV.d).drop 97).take 96 = (E.flatMap encE).map AV.d := by
    rw [← List.map_drop, x_d97 h, ← List.map_take, List.take_left' (by rw [fm_len encE_len, h.e])]
  rw [e]
  unfold mkAg
  rw [allD_map]
theorem stX_R (h : XOK I E R) {n : Nat} (hn : n < 16) {b : Bool} {i j : Nat} (hi : i = 193 + n * 1) (hj : j = i + 1) :
    ((encX d I E R).map AV.d).take i ++ [AV.d (.bl b)] ++ ((encX d I E R).map AV.d).drop j = (encX d I E (R.set n b)).map AV.d := by
  have e := fm_setM (enc := fun b => [D.bl b]) (sz := 1) (fun _ => rfl) ([encD d] ++ I.flatMap encI ++ E.flatMap encE) [] R n b (by rw [h.r]; exact hn) (a := i) (b := j)
    (by simp [fm_len encI_len, fm_len encE_len, h.i, h.e]; omega) hj
  rw [← List.map_take, ← List.map_drop]
  have e' : (encX d I E R).take i ++ [D.bl b] ++ (encX d I E R).drop j = encX d I E (R.set n b) := by
    simpa [encX] using e
  rw [← e', List.map_append, List.map_append]; rfl
end
end Go.Proofs.YtboohandlmnjkaaGreatDoor

/- One pass over the entries. Conditions: none. -/
namespace Go.Proofs.YtboohandlmnjkaaGreatDoor
open Go.Sy
set_option maxRecDepth 100000
set_option linter.all false
def kdI (I : List Ino) (n : Int) : Int := (I.getD n.toNat ino0).k
theorem xok_pass {I : List Ino} {E : List Ent} {R : List Bool} (h : XOK I E R) (kd : Int → Int) (L : List Ent) : XOK I E (passR kd L R) := ⟨h.i, h.e, by rw [passR_len]; exact h.r, h.p⟩
theorem callR_id {P : Program} {mem : List (Nat × Ob)} {f : Nat} {l : List AV} {K : AV → Prop} (h : CallR P mem f l K) : CallR P mem f l K := h
theorem ldD_E {E : List Ent} {n : Int} {x : Ent} (hx : E[n.toNat]? = some x) {ty : Ty} (ha : ty.kd.agg = true) (hz : ty.size = 4) : ldD ty ((E.flatMap encE).drop (n.toNat * 4)) = .dg 4 (encE x) := by
  unfold ldD
  rw [ha, cond_true, hz]
  have := fm_at encE_len [] [] E n.toNat x hx
  have e : ((E.flatMap encE).drop (n.toNat * 4)).take 4 = encE x := by simpa using this
  rw [e]
def rpA (d : Option Dk) (I : List Ino) (E : List Ent) (R : List Bool) (T : Nat) (k : Nat) (R' : List Bool) (m : Bool) : S :=
  ⟨[(0, .ptr 0 0), (3, .d (.bl m)), (9, .dg 96 (E.flatMap encE)), (10, .d (.it .i64 (k : Nat)))], [(0, .cells 209 ((encX d I E R').map .d)), (1, .frame 2 [(0, .ptr 0 0)]), (2, .tag 0 T)], 3⟩
theorem rpA_ok (d : Option Dk) (I : List Ino) (E : List Ent) (R : List Bool) (T : Nat) (k : Nat) (R' : List Bool) (m : Bool) : (rpA d I E R T k R' m).ok = true := by
  unfold rpA
  simp only [S.ok, List.all_cons, List.all_nil, Ob.lt, all_d]; rfl
theorem X_m1 (d : Option Dk) (I : List Ino) (E : List Ent) (R : List Bool) : (Ob.cells 209 ((encX d I E R).map .d)).m1 false = true := by
  show (!false && (Sy.allD _).isSome) = true
  rw [allD_map]; rfl
def rpI (I : List Ino) (E : List Ent) (R : List Bool) (x : Nat × List Bool × Bool) : Prop := x.1 ≤ 24 ∧ x.2.1 = passR (kdI I) (E.take x.1) R ∧ x.2.2 = decide (cntR R < cntR x.2.1)
set_option maxHeartbeats 8000000 in
theorem reach_ok {d : Option Dk} {I : List Ino} {E : List Ent} {R : List Bool} (h : XOK I E R) :
    FnM Tryz.prog 53 false [.ptr 0 0] (.cells 209 ((encX d I E R).map .d)) (.cells 209 ((encX d I E (passR (kdI I) E R)).map .d)) (.d (.bl (decide (cntR R < cntR (passR (kdI I) E R))))) := by
  refine FnM.intro ti_ok Tryz.func53 rfl Tryz.ntmps53 Tryz.call53 rfl (X_m1 ..) (X_m1 ..) rfl (Nat.le_of_ble_eq_true rfl) .cells ?_
  intro T
  have hl0 := allD_map (encX d I E R)
  (repeat' ((conv=>whnf);first|with_reducible refine gA ?_|((with_reducible refine atA_id ?_); first | refine AtA.eq (ldX_E h rfl rfl) ?_)|(with_reducible first|refine gB ?_|refine gZ (fun x hx hu=>?_)|refine gY (fun x hx=>?_)|refine gE ?_|refine Both.mk ?_ ?_|refine gS (fun h=>?_) (fun h=>?_)|refine Spl.nt ?_|refine Spl.mk (fun h=>?_) (fun h=>?_))))
  conv => whnf
  refine loop_rule ti_ok (rpI I E R) (fun x => rpA d I E R T x.1 x.2.1 x.2.2) (fun x => 24 - x.1) (0, R, false) ⟨Nat.zero_le _, rfl, by simp⟩ ⟨And.intro rfl (And.intro rfl (And.intro rfl (And.intro rfl trivial))), And.intro rfl (And.intro rfl (And.intro rfl trivial)), rpA_ok ..⟩ ?_
  intro ⟨k, R', m⟩ hk0
  have hkl := hk0.1
  have hRk := hk0.2.1
  have hm := hk0.2.2
  dsimp only at hkl hRk hm
  by_cases hk : k < 24
  · have hg : E[k]? = some (E[k]'(by rw [h.e]; exact hk)) := List.getElem?_eq_getElem _
    have hmem : E[k]'(by rw [h.e]; exact hk) ∈ E := List.getElem_mem _
    have hsn := passR_snoc (kdI I) hg R
    have hx := xok_pass h (kdI I) (E.take k)
    have hc1 := passR_cnt (kdI I) (E.take k) R
    rw [← hRk] at hsn hx hc1
    generalize E[k]'(by rw [h.e]; exact hk) = e at hg hmem hsn
    have hgI : E[((k : Nat) : Int).toNat]? = some e := hg
    have hs := sound_ok (d := d) hx hmem
    have hal := allD_map (encX d I E R')
    have hdr : (((encX d I E R').map AV.d).drop 0).take 209 = (encX d I E R').map AV.d := by
      rw [List.drop_zero, List.take_of_length_le (by rw [List.length_map, x_len hx]; exact Nat.le_refl _)]
    by_cases hsp : sndP I R' e
    · rw [decide_eq_true hsp] at hs
      have hu := hsp.1
      have hp := h.p e hmem hu
      have hr : R'[e.t.toNat]? = some (R'[e.t.toNat]'(by rw [hx.r]; omega)) := List.getElem?_eq_getElem _
      have hy : I[e.t.toNat]? = some (I[e.t.toNat]'(by rw [h.i]; omega)) := List.getElem?_eq_getElem _
      generalize R'[e.t.toNat]'(by rw [hx.r]; omega) = r at hr
      generalize I[e.t.toNat]'(by rw [h.i]; omega) = y at hy
      have hT : turnsR (kdI I) R' e ↔ r = false ∧ y.k ≠ 0 := by
        unfold turnsR kdI
        rw [List.getD_eq_getElem?_getD (l := R') (i := e.t.toNat), hr, List.getD_eq_getElem?_getD (l := I) (i := e.t.toNat), hy]
        exact ⟨fun q => ⟨q.2.2.2.2.1, q.2.2.2.1⟩, fun q => ⟨hu, hsp.2.1, hsp.2.2, q.2, q.1, by rw [hx.r]; omega⟩⟩
      by_cases hrr : r = true
      · have hst := hsn.trans (stepR_no (fun q => by have := (hT.1 q).1; rw [hrr] at this; cases this))
        rw [hrr] at hr
        (repeat' ((conv=>whnf);first|with_reducible refine gA ?_|((with_reducible refine atA_id ?_); first | refine AtA.eq (ldD_E hgI rfl rfl) ?_ | refine AtA.eq (ldX_R hx hr rfl rfl) ?_ | refine AtA.eq (ldX_I hx hy rfl rfl) ?_) | ((with_reducible refine callR_id ?_); refine CallR.mk ⟨[AV.d (.fp 209 (encX d I E R')), .dg 4 (encE e)], _, And.intro ⟨209, _, by with_unfolding_all exact rfl, Nat.le_refl _, x_len hx, (congrArg frzL hdr).trans (frz_map _)⟩ (And.intro (by with_unfolding_all exact rfl) trivial), hs, rfl, ?_⟩)|(with_reducible first|refine gB ?_|refine gZ (fun x hx hu=>?_)|refine gY (fun x hx=>?_)|refine gE ?_|refine Both.mk ?_ ?_|refine gS (fun h=>?_) (fun h=>?_)|refine Spl.nt ?_|refine Spl.mk (fun h=>?_) (fun h=>?_))))
        refine again (k + 1, R', m) ⟨hk, hst.symm, hm⟩ (by dsimp only; omega) (And.intro rfl (And.intro rfl (And.intro rfl (And.intro (it_eq (by dsimp only; omega)) trivial)))) (And.intro rfl (And.intro rfl (And.intro rfl trivial))) (rpA_ok ..)
      · have hrf : r = false := by simpa using hrr
        rw [hrf] at hr
        by_cases hyk : y.k = 0
        · have hst := hsn.trans (stepR_no (fun q => (hT.1 q).2 hyk))
          (repeat' ((conv=>whnf);first|with_reducible refine gA ?_|((with_reducible refine atA_id ?_); first | refine AtA.eq (ldD_E hgI rfl rfl) ?_ | refine AtA.eq (ldX_R hx hr rfl rfl) ?_ | refine AtA.eq (ldX_I hx hy rfl rfl) ?_) | ((with_reducible refine callR_id ?_); refine CallR.mk ⟨[AV.d (.fp 209 (encX d I E R')), .dg 4 (encE e)], _, And.intro ⟨209, _, by with_unfolding_all exact rfl, Nat.le_refl _, x_len hx, (congrArg frzL hdr).trans (frz_map _)⟩ (And.intro (by with_unfolding_all exact rfl) trivial), hs, rfl, ?_⟩)|(with_reducible first|refine gB ?_|refine gZ (fun x hx hu=>?_)|refine gY (fun x hx=>?_)|refine gE ?_|refine Both.mk ?_ ?_|refine gS (fun h=>?_) (fun h=>?_)|refine Spl.nt ?_|refine Spl.mk (fun h=>?_) (fun h=>?_))))
          refine again (k + 1, R', m) ⟨hk, hst.symm, hm⟩ (by dsimp only; omega) (And.intro rfl (And.intro rfl (And.intro rfl (And.intro (it_eq (by dsimp only; omega)) trivial)))) (And.intro rfl (And.intro rfl (And.intro rfl trivial))) (rpA_ok ..)
        · have hty := stepR_yes (hT.2 ⟨hrf, hyk⟩)
          have hst := hsn.trans hty.1
          (repeat' ((conv=>whnf);first|with_reducible refine gA ?_|((with_reducible refine atA_id ?_); first | refine AtA.eq (ldD_E hgI rfl rfl) ?_ | refine AtA.eq (ldX_R hx hr rfl rfl) ?_ | refine AtA.eq (ldX_I hx hy rfl rfl) ?_) | ((with_reducible refine callR_id ?_); refine CallR.mk ⟨[AV.d (.fp 209 (encX d I E R')), .dg 4 (encE e)], _, And.intro ⟨209, _, by with_unfolding_all exact rfl, Nat.le_refl _, x_len hx, (congrArg frzL hdr).trans (frz_map _)⟩ (And.intro (by with_unfolding_all exact rfl) trivial), hs, rfl, ?_⟩)|(with_reducible first|refine gB ?_|refine gZ (fun x hx hu=>?_)|refine gY (fun x hx=>?_)|refine gE ?_|refine Both.mk ?_ ?_|refine gS (fun h=>?_) (fun h=>?_)|refine Spl.nt ?_|refine Spl.mk (fun h=>?_) (fun h=>?_))))
          have hmt : true = decide (cntR R < cntR (R'.set e.t.toNat true)) := by
            rw [eq_comm, decide_eq_true_eq, ← hty.1, hty.2]; omega
          refine again (k + 1, R'.set e.t.toNat true, true) ⟨hk, hst.symm, hmt⟩ (by dsimp only; omega) (And.intro rfl (And.intro rfl (And.intro rfl (And.intro (it_eq (by dsimp only; omega)) trivial)))) (And.intro (cells_eq rfl (stX_R hx (by omega) rfl rfl)) (And.intro rfl (And.intro rfl trivial))) (rpA_ok ..)
    · rw [decide_eq_false hsp] at hs
      have hno : ¬ turnsR (kdI I) R' e := fun q => hsp ⟨q.1, q.2.1, q.2.2.1⟩
      have hst := hsn.trans (stepR_no hno)
      (repeat' ((conv=>whnf);first|with_reducible refine gA ?_|((with_reducible refine atA_id ?_); first | refine AtA.eq (ldD_E hgI rfl rfl) ?_) | ((with_reducible refine callR_id ?_); refine CallR.mk ⟨[AV.d (.fp 209 (encX d I E R')), .dg 4 (encE e)], _, And.intro ⟨209, _, by with_unfolding_all exact rfl, Nat.le_refl _, x_len hx, (congrArg frzL hdr).trans (frz_map _)⟩ (And.intro (by with_unfolding_all exact rfl) trivial), hs, rfl, ?_⟩)|(with_reducible first|refine gB ?_|refine gZ (fun x hx hu=>?_)|refine gY (fun x hx=>?_)|refine gE ?_|refine Both.mk ?_ ?_|refine gS (fun h=>?_) (fun h=>?_)|refine Spl.nt ?_|refine Spl.mk (fun h=>?_) (fun h=>?_))))
      refine again (k + 1, R', m) ⟨hk, hst.symm, hm⟩ (by dsimp only; omega) (And.intro rfl (And.intro rfl (And.intro rfl (And.intro (it_eq (by dsimp only; omega)) trivial)))) (And.intro rfl (And.intro rfl (And.intro rfl trivial))) (rpA_ok ..)
  · have hk24 : E.take k = E := List.take_of_length_le (by rw [h.e]; omega)
    rw [hk24] at hRk
    (repeat' ((conv=>whnf);first|with_reducible refine gA ?_|(with_reducible first|refine gB ?_|refine gZ (fun x hx hu=>?_)|refine gY (fun x hx=>?_)|refine gE ?_|refine Both.mk ?_ ?_|refine gS (fun h=>?_) (fun h=>?_)|refine Spl.nt ?_|refine Spl.mk (fun h=>?_) (fun h=>?_))))
    refine ⟨⟨[(2, .d (.bl m))], [(0, .cells 209 ((encX d I E R').map .d)), (1, .frame 2 [(0, .ptr 0 0)]), (2, .tag 0 T)], 3⟩, Wk.en ⟨And.intro rfl trivial, And.intro rfl (And.intro rfl (And.intro rfl trivial)), ?_⟩, ?_, ?_, rfl, rfl⟩
    · simp only [S.ok, List.all_cons, List.all_nil, Ob.lt, all_d]; rfl
    · show AV.d (.bl m) = .d (.bl (decide (cntR R < cntR (passR (kdI I) E R))))
      rw [hm, hRk]
    · show some (Ob.cells 209 ((encX d I E R').map .d)) = _
      rw [hRk]
end Go.Proofs.YtboohandlmnjkaaGreatDoor

/- What the checker reads. Conditions: none. -/
namespace Go.Proofs.YtboohandlmnjkaaGreatDoor
open Go.Sy
set_option maxRecDepth 100000
set_option linter.all false
def xI (f : Int → List UInt8) (n : Nat) : List Ino := (List.range 16).map fun i : Nat => if i < n then inoAt f (i : Nat) else ino0
def xE (f : Int → List UInt8) (n : Nat) : List Ent := (List.range 24).map fun i : Nat => if i < n then entAt f (i : Nat) else ent0
theorem xI_len (f : Int → List UInt8) (n : Nat) : (xI f n).length = 16 := by unfold xI; rw [List.length_map, List.length_range]
theorem xE_len (f : Int → List UInt8) (n : Nat) : (xE f n).length = 24 := by unfold xE; rw [List.length_map, List.length_range]
theorem xI_get (f : Int → List UInt8) (n i : Nat) (h : i < (xI f n).length) : (xI f n)[i] = if i < n then inoAt f (i : Nat) else ino0 := by simp [xI]
theorem xI_set (f : Int → List UInt8) {n : Nat} (h : n < 16) : (xI f n).set n (inoAt f (n : Nat)) = xI f (n + 1) := by
  refine List.ext_getElem (by rw [List.length_set, xI_len, xI_len]) fun i h1 h2 => ?_
  rw [List.getElem_set, xI_get, xI_get]
  by_cases hi : n = i
  · subst hi; rw [if_pos rfl, if_pos (by omega)]
  · rw [if_neg hi]
    by_cases h3 : i < n
    · rw [if_pos h3, if_pos (by omega)]
    · rw [if_neg h3, if_neg (by omega)]
theorem xE_get (f : Int → List UInt8) (n i : Nat) (h : i < (xE f n).length) : (xE f n)[i] = if i < n then entAt f (i : Nat) else ent0 := by simp [xE]
theorem xE_set (f : Int → List UInt8) {n : Nat} (h : n < 24) : (xE f n).set n (entAt f (n : Nat)) = xE f (n + 1) := by
  refine List.ext_getElem (by rw [List.length_set, xE_len, xE_len]) fun i h1 h2 => ?_
  rw [List.getElem_set, xE_get, xE_get]
  by_cases hi : n = i
  · subst hi; rw [if_pos rfl, if_pos (by omega)]
  · rw [if_neg hi]
    by_cases h3 : i < n
    · rw [if_pos h3, if_pos (by omega)]
    · rw [if_neg h3, if_neg (by omega)]
theorem entAt_RE (f : Int → List UInt8) (k : Int) : RE (entAt f k) := by
  unfold entAt
  split
  · unfold entOf
    split
    · rename_i h; exact h.1
    · exact .inl ⟨rfl, rfl, rfl, rfl⟩
  · exact .inl ⟨rfl, rfl, rfl, rfl⟩
theorem xok_L (f : Int → List UInt8) (n k : Nat) {R : List Bool} (hR : R.length = 16) : XOK (xI f n) (xE f k) R := by
  refine ⟨xI_len f n, xE_len f k, hR, fun x hx hu => ?_⟩
  obtain ⟨i, _, rfl⟩ := List.mem_map.1 hx
  have hx' : RE (if i < k then entAt f (i : Nat) else ent0) := by
    split
    · exact entAt_RE f i
    · exact .inl ⟨rfl, rfl, rfl, rfl⟩
  rcases hx' with h | h
  · rw [hu] at h; cases h.1
  · exact ⟨h.2.1, h.2.2.1, h.2.2.2.1, h.2.2.2.2.1⟩
theorem stX_I {d : Option Dk} {I : List Ino} {E : List Ent} {R : List Bool} (h : XOK I E R) {n : Nat} (hn : n < 16) {y : Ino} {i j : Nat} (hi : i = 1 + n * 6) (hj : j = i + 6) :
    ((encX d I E R).map AV.d).take i ++ (encI y).map AV.d ++ ((encX d I E R).map AV.d).drop j = (encX d (I.set n y) E R).map AV.d := by
  have e := fm_setM encI_len [encD d] (E.flatMap encE ++ R.flatMap fun b => [D.bl b]) I n y (by rw [h.i]; exact hn) (a := i) (b := j) (by simpa using hi) hj
  rw [← List.map_take, ← List.map_drop]
  have e' : (encX d I E R).take i ++ encI y ++ (encX d I E R).drop j = encX d (I.set n y) E R := by
    unfold encX
    rw [List.append_assoc ([encD d] ++ I.flatMap encI), List.append_assoc ([encD d] ++ (I.set n y).flatMap encI)]
    exact e
  rw [← e', List.map_append, List.map_append]
theorem stX_E {d : Option Dk} {I : List Ino} {E : List Ent} {R : List Bool} (h : XOK I E R) {n : Nat} (hn : n < 24) {y : Ent} {i j : Nat} (hi : i = 97 + n * 4) (hj : j = i + 4) :
    ((encX d I E R).map AV.d).take i ++ (encE y).map AV.d ++ ((encX d I E R).map AV.d).drop j = (encX d I (E.set n y) R).map AV.d := by
  have e := fm_setM encE_len ([encD d] ++ I.flatMap encI) (R.flatMap fun b => [D.bl b]) E n y (by rw [h.e]; exact hn) (a := i) (b := j) (by simp [fm_len encI_len, h.i]; omega) hj
  rw [← List.map_take, ← List.map_drop]
  have e' : (encX d I E R).take i ++ encE y ++ (encX d I E R).drop j = encX d I (E.set n y) R := e
  rw [← e', List.map_append, List.map_append]
def rdA (d : Option Dk) (s : Nat) (k : Nat) (I : List Ino) (E : List Ent) (R : List Bool) : S :=
  ⟨[(0, .d (encD d)), (3, .ptr 0 0), (s, .d (.it .i64 (k : Nat)))], [(0, .cells 209 ((encX d I E R).map .d))], 1⟩
theorem rdA_ok (d : Option Dk) (s : Nat) (k : Nat) (I : List Ino) (E : List Ent) (R : List Bool) : (rdA d s k I E R).ok = true := by
  unfold rdA
  simp only [S.ok, List.all_cons, List.all_nil, Ob.lt, all_d]; rfl
def rdI (f : Int → List UInt8) (x : Nat × List Ino) : Prop := x.1 ≤ 16 ∧ x.2 = xI f x.1
def rdE' (f : Int → List UInt8) (x : Nat × List Ent) : Prop := x.1 ≤ 24 ∧ x.2 = xE f x.1
theorem passR_fix (kd : Int → Int) : ∀ (E : List Ent) (R : List Bool), ¬ cntR R < cntR (passR kd E R) → passR kd E R = R
  | [], R, _ => rfl
  | x :: E, R, h => by
    have h1 : passR kd (x :: E) R = passR kd E (stepR kd R x) := rfl
    rw [h1] at h ⊢
    have h2 := passR_cnt kd E (stepR kd R x)
    by_cases ht : turnsR kd R x
    · have := (stepR_yes ht).2; omega
    · rw [stepR_no ht] at h ⊢
      exact passR_fix kd E R h
def rcI (kd : Int → Int) (E : List Ent) (x : Nat × List Bool) : Prop := x.2 = iterR kd E x.1 R0 ∧ x.1 + 1 ≤ cntR x.2 ∧ x.2.length = 16
def rcA (d : Option Dk) (I : List Ino) (E : List Ent) (R : List Bool) : S := ⟨[(0, .d (encD d)), (3, .ptr 0 0)], [(0, .cells 209 ((encX d I E R).map .d))], 1⟩
theorem rcA_ok (d : Option Dk) (I : List Ino) (E : List Ent) (R : List Bool) : (rcA d I E R).ok = true := by
  unfold rcA
  simp only [S.ok, List.all_cons, List.all_nil, Ob.lt, all_d]; rfl
def F16 : List Bool := List.replicate 16 false
set_option maxHeartbeats 8000000 in
theorem xread_ok (d : Option Dk) (hd : DkOK d) : FnC Tryz.prog 27 [.d (encD d)] (.d (.fp 209 (encX d (xI (rdS d) 16) (xE (rdS d) 24) (reachR (kdI (xI (rdS d) 16)) (xE (rdS d) 24))))) := by
  have hi := fun n => inode_ok d hd n
  have he := fun n => entry_ok d hd n
  refine FnC.intro ti_ok Tryz.func27 rfl Tryz.ntmps27 Tryz.call27 rfl (Nat.le_of_ble_eq_true rfl) rfl ?_
  (repeat' ((conv=>whnf);first|with_reducible refine gA ?_|(with_reducible first|refine gB ?_|refine gZ (fun x hx hu=>?_)|refine gY (fun x hx=>?_)|refine gE ?_|refine Both.mk ?_ ?_|refine gS (fun h=>?_) (fun h=>?_)|refine Spl.nt ?_|refine Spl.mk (fun h=>?_) (fun h=>?_))))
  conv => whnf
  refine loop_rule ti_ok (rdI (rdS d)) (fun x => rdA d 9 x.1 x.2 (xE (rdS d) 0) F16) (fun x => 16 - x.1) (0, xI (rdS d) 0) ⟨Nat.zero_le _, rfl⟩ ⟨And.intro rfl (And.intro rfl (And.intro rfl trivial)), And.intro (cells_eq rfl (by with_unfolding_all exact rfl)) trivial, rdA_ok ..⟩ ?_
  intro ⟨k, L⟩ hk0
  have hkl := hk0.1
  have hL := hk0.2
  dsimp only at hkl hL
  by_cases hk : k < 16
  · have hX := xok_L (rdS d) k 0 (R := F16) rfl
    rw [← hL] at hX
    have hik := hi (k : Nat)
    have hset := xI_set (rdS d) hk
    rw [← hL] at hset
    (repeat' ((conv=>whnf);first|with_reducible refine gA ?_|((with_reducible refine callE_id ?_); (refine CallE.con ⟨_, hik, ?_⟩)) | refine CallP.mk ⟨_, hik, ?_⟩|(with_reducible first|refine gB ?_|refine gZ (fun x hx hu=>?_)|refine gY (fun x hx=>?_)|refine gE ?_|refine Both.mk ?_ ?_|refine gS (fun h=>?_) (fun h=>?_)|refine Spl.nt ?_|refine Spl.mk (fun h=>?_) (fun h=>?_))))
    refine again (k + 1, L.set k (inoAt (rdS d) (k : Nat))) ⟨hk, hset⟩ (by dsimp only; omega) (And.intro rfl (And.intro rfl (And.intro (it_eq (by dsimp only; omega)) trivial))) (And.intro (cells_eq rfl (stX_I hX hk rfl rfl)) trivial) (rdA_ok ..)
  · have hk16 : k = 16 := by omega
    rw [hk16] at hL
    (repeat' ((conv=>whnf);first|with_reducible refine gA ?_|(with_reducible first|refine gB ?_|refine gZ (fun x hx hu=>?_)|refine gY (fun x hx=>?_)|refine gE ?_|refine Both.mk ?_ ?_|refine gS (fun h=>?_) (fun h=>?_)|refine Spl.nt ?_|refine Spl.mk (fun h=>?_) (fun h=>?_))))
    conv => whnf
    refine loop_rule ti_ok (rdE' (rdS d)) (fun x => rdA d 21 x.1 L x.2 F16) (fun x => 24 - x.1) (0, xE (rdS d) 0) ⟨Nat.zero_le _, rfl⟩ ⟨And.intro rfl (And.intro rfl (And.intro rfl trivial)), And.intro rfl trivial, rdA_ok ..⟩ ?_
    intro ⟨k2, M⟩ hk1
    have hk2l := hk1.1
    have hM := hk1.2
    dsimp only at hk2l hM
    have hX := xok_L (rdS d) 16 k2 (R := F16) rfl
    rw [← hL, ← hM] at hX
    by_cases hk2 : k2 < 24
    · have hek := he (k2 : Nat)
      have hset := xE_set (rdS d) hk2
      rw [← hM] at hset
      (repeat' ((conv=>whnf);first|with_reducible refine gA ?_|((with_reducible refine callE_id ?_); (refine CallE.con ⟨_, hek, ?_⟩)) | refine CallP.mk ⟨_, hek, ?_⟩|(with_reducible first|refine gB ?_|refine gZ (fun x hx hu=>?_)|refine gY (fun x hx=>?_)|refine gE ?_|refine Both.mk ?_ ?_|refine gS (fun h=>?_) (fun h=>?_)|refine Spl.nt ?_|refine Spl.mk (fun h=>?_) (fun h=>?_))))
      refine again (k2 + 1, M.set k2 (entAt (rdS d) (k2 : Nat))) ⟨hk2, hset⟩ (by dsimp only; omega) (And.intro rfl (And.intro rfl (And.intro (it_eq (by dsimp only; omega)) trivial))) (And.intro (cells_eq rfl (stX_E hX hk2 rfl rfl)) trivial) (rdA_ok ..)
    · have hk24 : k2 = 24 := by omega
      rw [hk24] at hM
      (repeat' ((conv=>whnf);first|with_reducible refine gA ?_|(with_reducible first|refine gB ?_|refine gZ (fun x hx hu=>?_)|refine gY (fun x hx=>?_)|refine gE ?_|refine Both.mk ?_ ?_|refine gS (fun h=>?_) (fun h=>?_)|refine Spl.nt ?_|refine Spl.mk (fun h=>?_) (fun h=>?_))))
      conv => whnf
      refine loop_rule ti_ok (rcI (kdI L) M) (fun x => rcA d L M x.2) (fun x => 16 - x.1) (0, R0) ⟨rfl, by decide, rfl⟩ ⟨And.intro rfl (And.intro rfl trivial), And.intro (cells_eq rfl (stX_R (n := 0) hX (by decide) rfl rfl)) trivial, rcA_ok ..⟩ ?_
      intro ⟨j, R⟩ hj0
      have hj := hj0.1
      have hjc := hj0.2.1
      have hjl := hj0.2.2
      dsimp only at hj hjc hjl
      have hY : XOK L M R := ⟨hX.i, hX.e, hjl, hX.p⟩
      have hr := reach_ok (d := d) hY
      have hle := cntR_le R
      rw [hjl] at hle
      by_cases hm : cntR R < cntR (passR (kdI L) M R)
      · rw [decide_eq_true hm] at hr
        (repeat' ((conv=>whnf);first|with_reducible refine gA ?_|((with_reducible refine callI_id ?_); refine CallI.byM hr (by with_unfolding_all exact rfl) rfl ?_)|(with_reducible first|refine gB ?_|refine gZ (fun x hx hu=>?_)|refine gY (fun x hx=>?_)|refine gE ?_|refine Both.mk ?_ ?_|refine gS (fun h=>?_) (fun h=>?_)|refine Spl.nt ?_|refine Spl.mk (fun h=>?_) (fun h=>?_))))
        refine again (j + 1, passR (kdI L) M R) ⟨?_, by dsimp only; omega, by dsimp only; rw [passR_len]; exact hjl⟩ (by dsimp only; omega) (And.intro rfl (And.intro rfl trivial)) (And.intro rfl trivial) (rcA_ok ..)
        show passR (kdI L) M R = iterR (kdI L) M (j + 1) R0
        rw [iterR_add, ← hj]; rfl
      · rw [decide_eq_false hm] at hr
        have hfix := passR_fix (kdI L) M R hm
        have hre := reach_at (kdI L) M (j := j) (by omega) (by rw [← hj]; exact hfix)
        rw [← hj] at hre
        (repeat' ((conv=>whnf);first|with_reducible refine gA ?_|((with_reducible refine callI_id ?_); refine CallI.byM hr (by with_unfolding_all exact rfl) rfl ?_)|(with_reducible first|refine gB ?_|refine gZ (fun x hx hu=>?_)|refine gY (fun x hx=>?_)|refine gE ?_|refine Both.mk ?_ ?_|refine gS (fun h=>?_) (fun h=>?_)|refine Spl.nt ?_|refine Spl.mk (fun h=>?_) (fun h=>?_))))
        refine ⟨encX d L M (passR (kdI L) M R), ⟨Nat.zero_le _, rfl⟩, ?_⟩
        show AV.d (.fp (209 - 0) _) = _
        rw [hfix, hre, hL, hM]
end Go.Proofs.YtboohandlmnjkaaGreatDoor

/- Odd sectors; how many own a block. Conditions: none. -/
namespace Go.Proofs.YtboohandlmnjkaaGreatDoor
open Go.Sy
set_option maxRecDepth 100000
set_option linter.all false
def oddP (d : Option Dk) (k : Int) : Prop := hasP d (17 + k) ∧ entOk (rdS d (17 + k)) = false
instance (d : Option Dk) (k : Int) : Decidable (oddP d k) := by unfold oddP; infer_instance
set_option maxHeartbeats 4000000 in
theorem odd_ok {d : Option Dk} (hd : DkOK d) (I : List Ino) (E : List Ent) (R : List Bool) (k : Int) (hk : 0 ≤ k ∧ k < 24) : FnC Tryz.prog 78 [.d (.fp 209 (encX d I E R)), .d (.it .i64 k)] (.d (.bl (decide (oddP d k)))) := by
  have hr := read_ok d hd (17 + k)
  have hs := rdS_len hd (17 + k)
  have he := entOf_ok (rdS d (17 + k)) hs
  unfold entOfV at he
  have h0 : (encX d I E R).drop 0 = encX d I E R := rfl
  have hld : ∀ {ty : Ty}, ty.kd.agg = false → ldD ty (encX d I E R) = .d (encD d) := fun {ty} ha => by unfold ldD; rw [ha]; rfl
  by_cases hh : hasP d (17 + k)
  · rw [show rdE d (17 + k) = 0 from if_pos hh] at hr
    refine FnC.intro ti_ok Tryz.func78 rfl Tryz.ntmps78 Tryz.call78 rfl (Nat.le_of_ble_eq_true rfl) rfl ?_
    (repeat' ((conv=>whnf);first|with_reducible refine gA ?_|((with_reducible refine callE_id ?_); first | (refine CallE.con ⟨_, hr, ?_⟩) | (refine CallE.con ⟨_, he, ?_⟩)) | ((with_reducible refine atD_id ?_); refine AtD.eq h0 ?_) | ((with_reducible refine atA_id ?_); first | refine AtA.eq (hld rfl) ?_ | refine AtA.eq (ld_sec rfl rfl hs) ?_) | ((with_reducible refine letC_id ?_); refine LetC.mk ((encS (rdS d (17 + k))).map AV.d) (st_all _) ?_)|(with_reducible first|refine gB ?_|refine gZ (fun x hx hu=>?_)|refine gY (fun x hx=>?_)|refine gE ?_|refine Both.mk ?_ ?_|refine gS (fun h=>?_) (fun h=>?_)|refine Spl.nt ?_|refine Spl.mk (fun h=>?_) (fun h=>?_))))
    refine bl_of ?_
    unfold oddP
    simp [hh]
  · rw [show rdE d (17 + k) = 1 from if_neg hh] at hr
    refine FnC.intro ti_ok Tryz.func78 rfl Tryz.ntmps78 Tryz.call78 rfl (Nat.le_of_ble_eq_true rfl) rfl ?_
    (repeat' ((conv=>whnf);first|with_reducible refine gA ?_|((with_reducible refine callE_id ?_); first | (refine CallE.con ⟨_, hr, ?_⟩) | (refine CallE.con ⟨_, he, ?_⟩)) | ((with_reducible refine atD_id ?_); refine AtD.eq h0 ?_) | ((with_reducible refine atA_id ?_); first | refine AtA.eq (hld rfl) ?_ | refine AtA.eq (ld_sec rfl rfl hs) ?_) | ((with_reducible refine letC_id ?_); refine LetC.mk ((encS (rdS d (17 + k))).map AV.d) (st_all _) ?_)|(with_reducible first|refine gB ?_|refine gZ (fun x hx hu=>?_)|refine gY (fun x hx=>?_)|refine gE ?_|refine Both.mk ?_ ?_|refine gS (fun h=>?_) (fun h=>?_)|refine Spl.nt ?_|refine Spl.mk (fun h=>?_) (fun h=>?_))))
    exact bl_ff (fun q => hh q.1)
def ownK (ino : Nat → Ino) (tk : Nat → Bool) (b : Int) (k : Nat) : Nat := ((List.range k).filter fun i => decide ((ino i).k = 1 ∧ b ∈ blks (ino i)) && tk i).length
theorem ownK_yes {ino : Nat → Ino} {tk : Nat → Bool} {b : Int} {k : Nat} (h1 : (ino k).k = 1 ∧ b ∈ blks (ino k)) (h2 : tk k = true) : ownK ino tk b (k + 1) = ownK ino tk b k + 1 := by
  unfold ownK
  rw [List.range_succ, List.filter_append, List.length_append]
  simp [h1, h2]
theorem ownK_no {ino : Nat → Ino} {tk : Nat → Bool} {b : Int} {k : Nat} (h : ¬ (((ino k).k = 1 ∧ b ∈ blks (ino k)) ∧ tk k = true)) : ownK ino tk b (k + 1) = ownK ino tk b k := by
  unfold ownK
  rw [List.range_succ, List.filter_append, List.length_append]
  have : (decide ((ino k).k = 1 ∧ b ∈ blks (ino k)) && tk k) = false := by
    rw [Bool.and_eq_false_iff]
    by_cases h1 : (ino k).k = 1 ∧ b ∈ blks (ino k)
    · right
      cases h2 : tk k with
      | true => exact (h ⟨h1, h2⟩).elim
      | false => rfl
    · left; exact decide_eq_false h1
  have e : [k].filter (fun i => decide ((ino i).k = 1 ∧ b ∈ blks (ino i)) && tk i) = [] := by simp only [List.filter, this]
  rw [e]; rfl
theorem ownK_le (ino : Nat → Ino) (tk : Nat → Bool) (b : Int) (k : Nat) : ownK ino tk b k ≤ k := by
  unfold ownK
  exact Nat.le_trans (List.length_filter_le _ _) (by rw [List.length_range]; exact Nat.le_refl _)
theorem ldD_I96 {I : List Ino} {E : List Ent} {R : List Bool} (h : XOK I E R) {ty : Ty} (ha : ty.kd.agg = true) (hz : ty.size = 96) : ldD ty (I.flatMap encI ++ E.flatMap encE ++ R.flatMap fun b => [D.bl b]) = .dg 96 (I.flatMap encI) := by
  unfold ldD
  rw [ha, cond_true, hz, List.append_assoc, List.take_left' (by rw [fm_len encI_len, h.i])]
theorem ldD_I6 {I : List Ino} {n : Int} {x : Ino} (hx : I[n.toNat]? = some x) {ty : Ty} (ha : ty.kd.agg = true) (hz : ty.size = 6) : ldD ty ((I.flatMap encI).drop (n.toNat * 6)) = .dg 6 (encI x) := by
  unfold ldD
  rw [ha, cond_true, hz]
  have := fm_at encI_len [] [] I n.toNat x hx
  have e : ((I.flatMap encI).drop (n.toNat * 6)).take 6 = encI x := by simpa using this
  rw [e]
set_option maxHeartbeats 8000000 in
theorem own_ok {d : Option Dk} (hd : DkOK d) {I : List Ino} {E : List Ent} {R : List Bool} (h : XOK I E R) (b : Int) : FnC Tryz.prog 56 [.d (.fp 209 (encX d I E R)), .d (.it .i64 b)] (.d (.it .i64 (ownK (fun i => I.getD i ino0) (fun i => decide (takP (rdS d) (i : Nat))) b 16 : Nat))) := by
  have h0 : (encX d I E R).drop 0 = encX d I E R := rfl
  have h1 : (encX d I E R).drop 1 = I.flatMap encI ++ E.flatMap encE ++ R.flatMap fun b => [D.bl b] := rfl
  have hld : ∀ {ty : Ty}, ty.kd.agg = false → ldD ty (encX d I E R) = .d (encD d) := fun {ty} ha => by unfold ldD; rw [ha]; rfl
  have ht := fun n => taken_ok d hd n
  refine FnC.intro ti_ok Tryz.func56 rfl Tryz.ntmps56 Tryz.call56 rfl (Nat.le_of_ble_eq_true rfl) rfl ?_
  (repeat' ((conv=>whnf);first|with_reducible refine gA ?_|((with_reducible refine atD_id ?_); refine AtD.eq h1 ?_) | ((with_reducible refine atA_id ?_); refine AtA.eq (ldD_I96 h rfl rfl) ?_)|(with_reducible first|refine gB ?_|refine gZ (fun x hx hu=>?_)|refine gY (fun x hx=>?_)|refine gE ?_|refine Both.mk ?_ ?_|refine gS (fun h=>?_) (fun h=>?_)|refine Spl.nt ?_|refine Spl.mk (fun h=>?_) (fun h=>?_))))
  conv => whnf
  refine loop_rule ti_ok (fun x : Nat × Nat => x.1 ≤ 16 ∧ x.2 = ownK (fun i => I.getD i ino0) (fun i => decide (takP (rdS d) (i : Nat))) b x.1) (fun x => ⟨[(0, .d (.fp 209 (encX d I E R))), (1, .d (.it .i64 b)), (5, .d (.it .i64 (x.2 : Nat))), (11, .dg 96 (I.flatMap encI)), (12, .d (.it .i64 (x.1 : Nat)))], [], 0⟩) (fun x => 16 - x.1) (0, 0) ⟨Nat.zero_le _, rfl⟩ ⟨And.intro rfl (And.intro rfl (And.intro rfl (And.intro rfl (And.intro rfl trivial)))), trivial, rfl⟩ ?_
  intro ⟨k, c⟩ hk0
  have hkl := hk0.1
  have hc := hk0.2
  dsimp only at hkl hc
  by_cases hk : k < 16
  · have hg : I[((k : Nat) : Int).toNat]? = some (I[k]'(by rw [h.i]; exact hk)) := List.getElem?_eq_getElem _
    have hgd : I.getD k ino0 = I[k]'(by rw [h.i]; exact hk) := by rw [List.getD_eq_getElem?_getD, List.getElem?_eq_getElem]; rfl
    generalize I[k]'(by rw [h.i]; exact hk) = y at hg hgd
    have htk := ht (k : Nat)
    have hcl := ownK_le (fun i => I.getD i ino0) (fun i => decide (takP (rdS d) (i : Nat))) b k
    rw [← hc] at hcl
    have yes : y.k = 1 → b ∈ blks y → takP (rdS d) (k : Nat) → c + 1 = ownK (fun i => I.getD i ino0) (fun i => decide (takP (rdS d) (i : Nat))) b (k + 1) := fun q1 q2 q3 => by
      rw [ownK_yes (ino := fun i => I.getD i ino0) (tk := fun i => decide (takP (rdS d) (i : Nat))) (by rw [hgd]; exact ⟨q1, q2⟩) (decide_eq_true q3), hc]
    have no : ¬ (y.k = 1 ∧ b ∈ blks y ∧ takP (rdS d) (k : Nat)) → c = ownK (fun i => I.getD i ino0) (fun i => decide (takP (rdS d) (i : Nat))) b (k + 1) := fun q => by
      rw [ownK_no (ino := fun i => I.getD i ino0) (tk := fun i => decide (takP (rdS d) (i : Nat))) (fun r => q (by have := r.1; rw [hgd] at this; exact ⟨this.1, this.2, of_decide_eq_true r.2⟩)), hc]
    by_cases hT : takP (rdS d) (k : Nat)
    all_goals first | rw [decide_eq_true hT] at htk | rw [decide_eq_false hT] at htk
    all_goals (repeat' ((conv=>whnf);first|with_reducible refine gA ?_|((with_reducible refine callE_id ?_); first | (refine CallE.con ⟨_, htk, ?_⟩) | refine CallE.inl ?_) | ((with_reducible refine callI_id ?_); first | with_reducible refine CallI.inl ti_ok i82 rfl ?_ | with_reducible refine CallI.inl ti_ok i63 rfl ?_) | with_reducible refine LoopS.unroll ti_ok 5 ?_ | ((with_reducible refine atD_id ?_); refine AtD.eq h0 ?_) | ((with_reducible refine atA_id ?_); first | refine AtA.eq (ldD_I6 hg rfl rfl) ?_ | refine AtA.eq (hld rfl) ?_)|(with_reducible first|refine gB ?_|refine gZ (fun x hx hu=>?_)|refine gY (fun x hx=>?_)|refine gE ?_|refine Both.mk ?_ ?_|refine gS (fun h=>?_) (fun h=>?_)|refine Spl.nt ?_|refine Spl.mk (fun h=>?_) (fun h=>?_))))
    all_goals first
      | (refine again (k + 1, c + 1) ⟨hk, yes (by assumption) (by simp only [blks, List.mem_cons, List.not_mem_nil, or_false]; omega) hT⟩ (by dsimp only; omega) (And.intro rfl (And.intro rfl (And.intro (it_eq (by dsimp only; omega)) (And.intro rfl (And.intro (it_eq (by dsimp only; omega)) trivial))))) trivial rfl; done)
      | (refine again (k + 1, c) ⟨hk, no (fun q => by have q2 := q.2.1; simp only [blks, List.mem_cons, List.not_mem_nil, or_false] at q2; first | exact hT q.2.2 | (have := q.1; omega))⟩ (by dsimp only; omega) (And.intro rfl (And.intro rfl (And.intro rfl (And.intro rfl (And.intro (it_eq (by dsimp only; omega)) trivial))))) trivial rfl; done)
  · have h16 : k = 16 := by omega
    rw [h16] at hc
    (repeat' ((conv=>whnf);first|with_reducible refine gA ?_|(with_reducible first|refine gB ?_|refine gZ (fun x hx hu=>?_)|refine gY (fun x hx=>?_)|refine gE ?_|refine Both.mk ?_ ?_|refine gS (fun h=>?_) (fun h=>?_)|refine Spl.nt ?_|refine Spl.mk (fun h=>?_) (fun h=>?_))))
    show AV.d (.it .i64 (c : Nat)) = _
    rw [hc]
end Go.Proofs.YtboohandlmnjkaaGreatDoor

/- How many own a block, by the document's answer. Conditions: none. -/
namespace Go.Proofs.YtboohandlmnjkaaGreatDoor
open Go.Sy
set_option maxRecDepth 100000
set_option linter.all false
theorem inoAt_RI (f : Int → List UInt8) (n : Int) : RI (inoAt f n) := by
  unfold inoAt
  split
  · unfold inoOf
    split
    · rename_i h; exact h.1
    · exact .inl ⟨.inl rfl, rfl, rfl, rfl, rfl, rfl⟩
  · exact .inl ⟨.inl rfl, rfl, rfl, rfl, rfl, rfl⟩
end Go.Proofs.YtboohandlmnjkaaGreatDoor

/- Problems of entries. Conditions: none. -/
namespace Go.Proofs.YtboohandlmnjkaaGreatDoor
open Go.Sy
set_option maxRecDepth 100000
set_option linter.all false
/-- Has entry k a problem of a kind? -/
def prbP (od : Nat → Bool) (I : List Ino) (E : List Ent) (R : List Bool) (kind k : Nat) : Bool :=
  match kind with
  | 1 => od k
  | 2 => (E.getD k ent0).u && decide ((I.getD (E.getD k ent0).t.toNat ino0).k = 0)
  | 3 => (E.getD k ent0).u && !decide (sndP I R (E.getD k ent0))
  | 4 => (E.getD k ent0).u && (E.take k).any fun o => o.u && (decide (o.p = (E.getD k ent0).p) && decide (o.n = (E.getD k ent0).n))
  | 5 => (E.getD k ent0).u && (E.take k).any fun o => o.u && decide (o.t = (E.getD k ent0).t)
  | _ => false
theorem slF_id {sz len : Nat} {cs : List D} {lo hi : Option Int} {K : AV → Prop} (h : SlF sz len cs lo hi K) : SlF sz len cs lo hi K := h
theorem E_rows {E : List Ent} {R : List Bool} (h : E.length = 24) : (E.map encE).length = 24 ∧ (∀ x ∈ E.map encE, x.length = 4) ∧ (E.map encE).flatten = ((E.flatMap encE) ++ R.flatMap fun b => [D.bl b]).take (24 * 4) := by
  refine ⟨by rw [List.length_map, h], fun x hx => ?_, ?_⟩
  · obtain ⟨e, _, rfl⟩ := List.mem_map.1 hx; rfl
  · rw [List.take_left' (by rw [fm_len encE_len, h]), List.flatMap_def]
theorem any_take {α : Type} {q : α → Bool} {L : List α} {j : Nat} {x : α} (h : L[j]? = some x) (ha : (L.take j).any q = false) (hx : q x = false) : (L.take (j + 1)).any q = false := by
  rw [List.take_add_one, h, List.any_append, ha]; simpa using hx
theorem any_yes {α : Type} {q : α → Bool} {L : List α} {j k : Nat} {x : α} (h : L[j]? = some x) (hj : j < k) (hx : q x = true) : (L.take k).any q = true := by
  rw [List.any_eq_true]
  refine ⟨x, ?_, hx⟩
  have := (List.getElem?_eq_some_iff.1 h)
  rw [List.mem_take_iff_getElem]
  exact ⟨j, by have := this.1; omega, this.2⟩
theorem any_r {α : Type} {q : α → Bool} {L : List α} {k : Nat} (h : (L.take k).any q = true) : true = (true && L.any q) := by
  rw [List.any_eq_true] at h
  obtain ⟨x, hx, hq⟩ := h
  rw [Bool.true_and, eq_comm, List.any_eq_true]
  exact ⟨x, List.mem_of_mem_take hx, hq⟩
theorem any_f {α : Type} {q : α → Bool} {L : List α} (h : L.any q = false) : false = (true && L.any q) := by rw [h]; rfl
def lwS (L : List Ent) (f a b : Nat) (k j : Nat) : List (Nat × AV) := [(0, .d (.fs 4 (L.map encE))), (1, .fn (.func f) [] [.ptr a 0, .ptr b 0]), (7, .d (.it .i64 (k : Nat))), (8, .d (.it .i64 (j : Nat)))]
set_option maxHeartbeats 8000000 in
theorem hasE_ok {d : Option Dk} (hd : DkOK d) {I : List Ino} {E : List Ent} {R : List Bool} (h : XOK I E R) (kind k : Nat) (hk : k < 24) (h1 : 1 ≤ kind ∧ kind ≤ 5) : FnC Tryz.prog 55 [.d (.fp 209 (encX d I E R)), .d (.it .i64 (kind : Nat)), .d (.it .i64 (k : Nat))] (.d (.bl (prbP (fun k => decide (oddP d (k : Nat))) I E R kind k))) := by
  have h97 := x_d97 (d := d) h
  have h1d := x_d1 (d := d) (I := I) (E := E) (R := R)
  obtain ⟨e, he⟩ := lt_get (l := E) (k := k) (by rw [h.e]; omega)
  have hmem : e ∈ E := List.mem_of_getElem? he
  have hgd : E.getD k ent0 = e := by rw [List.getD_eq_getElem?_getD, he]; rfl
  have hE := at_E (E := E) (R := R) (n := (k : Nat)) he
  have hod := odd_ok hd I E R (k : Nat) (by omega)
  have hsn := sound_ok (d := d) h hmem
  have hxe : encE e = [.bl e.u, .it .i64 e.p, .st e.n, .it .i64 e.t] := rfl
  have hp := h.p e hmem
  have hrows := E_rows (R := R) h.e
  unfold prbP
  rw [hgd]
  have hk5 : kind = 1 ∨ kind = 2 ∨ kind = 3 ∨ kind = 4 ∨ kind = 5 := by omega
  cases hu : e.u with
  | false =>
    rw [hu] at hxe
    rw [hxe] at hE hsn
    refine FnC.intro ti_ok Tryz.func55 rfl Tryz.ntmps55 Tryz.call55 rfl (Nat.le_of_ble_eq_true rfl) rfl ?_
    rcases hk5 with rfl | rfl | rfl | rfl | rfl
    all_goals (repeat' ((conv=>whnf);first|with_reducible refine gA ?_|((with_reducible refine callE_id ?_); first | (refine CallE.con ⟨_, hod, ?_⟩) | (refine CallE.inl ?_)) | ((with_reducible refine callI_id ?_); with_reducible refine CallI.inl ti_ok i79 rfl ?_) | ((with_reducible refine atD_id ?_); first | refine AtD.eq h97 ?_ | refine AtD.eq hE ?_)|(with_reducible first|refine gB ?_|refine gZ (fun x hx hu=>?_)|refine gY (fun x hx=>?_)|refine gE ?_|refine Both.mk ?_ ?_|refine gS (fun h=>?_) (fun h=>?_)|refine Spl.nt ?_|refine Spl.mk (fun h=>?_) (fun h=>?_))))
    all_goals rfl
  | true =>
    obtain ⟨p1, p2, t1, t2⟩ := hp hu
    rw [hu] at hxe
    rw [hxe] at hE hsn
    obtain ⟨y, hy⟩ := lt_get (l := I) (k := e.t.toNat) (by rw [h.i]; omega)
    have hI := at_I (E := E) (R := R) hy
    have hyg : I.getD e.t.toNat ino0 = y := by rw [List.getD_eq_getElem?_getD, hy]; rfl
    rcases hk5 with rfl | rfl | rfl | rfl | rfl
    · refine FnC.intro ti_ok Tryz.func55 rfl Tryz.ntmps55 Tryz.call55 rfl (Nat.le_of_ble_eq_true rfl) rfl ?_
      (repeat' ((conv=>whnf);first|with_reducible refine gA ?_|((with_reducible refine callE_id ?_); first | (refine CallE.con ⟨_, hod, ?_⟩)) | ((with_reducible refine atD_id ?_); first | refine AtD.eq h97 ?_ | refine AtD.eq hE ?_)|(with_reducible first|refine gB ?_|refine gZ (fun x hx hu=>?_)|refine gY (fun x hx=>?_)|refine gE ?_|refine Both.mk ?_ ?_|refine gS (fun h=>?_) (fun h=>?_)|refine Spl.nt ?_|refine Spl.mk (fun h=>?_) (fun h=>?_))))
      rfl
    · rw [hyg]
      refine FnC.intro ti_ok Tryz.func55 rfl Tryz.ntmps55 Tryz.call55 rfl (Nat.le_of_ble_eq_true rfl) rfl ?_
      (repeat' ((conv=>whnf);first|with_reducible refine gA ?_|((with_reducible refine atD_id ?_); first | refine AtD.eq h97 ?_ | refine AtD.eq hE ?_ | refine AtD.eq h1d ?_ | refine AtD.eq hI ?_)|(with_reducible first|refine gB ?_|refine gZ (fun x hx hu=>?_)|refine gY (fun x hx=>?_)|refine gE ?_|refine Both.mk ?_ ?_|refine gS (fun h=>?_) (fun h=>?_)|refine Spl.nt ?_|refine Spl.mk (fun h=>?_) (fun h=>?_))))
      refine bl_eq ?_
      show (y.k == 0) = (true && decide (y.k = 0))
      rw [Bool.true_and]
      exact (by by_cases h0 : y.k = 0 <;> simp [h0])
    · by_cases hs : sndP I R e
      all_goals first | rw [decide_eq_true hs] at hsn | rw [decide_eq_false hs] at hsn
      all_goals refine FnC.intro ti_ok Tryz.func55 rfl Tryz.ntmps55 Tryz.call55 rfl (Nat.le_of_ble_eq_true rfl) rfl ?_
      all_goals (repeat' ((conv=>whnf);first|with_reducible refine gA ?_|((with_reducible refine callE_id ?_); (refine CallE.con ⟨_, hsn, ?_⟩)) | ((with_reducible refine atD_id ?_); first | refine AtD.eq h97 ?_ | refine AtD.eq hE ?_)|(with_reducible first|refine gB ?_|refine gZ (fun x hx hu=>?_)|refine gY (fun x hx=>?_)|refine gE ?_|refine Both.mk ?_ ?_|refine gS (fun h=>?_) (fun h=>?_)|refine Spl.nt ?_|refine Spl.mk (fun h=>?_) (fun h=>?_))))
      · rw [decide_eq_true hs]; rfl
      · rw [decide_eq_false hs]; rfl
    · have hlt : (E.take k).length = k := by rw [List.length_take, h.e]; omega
      have hlen : ((E.take k).map encE).length = k := by rw [List.length_map, hlt]
      refine FnC.intro ti_ok Tryz.func55 rfl Tryz.ntmps55 Tryz.call55 rfl (Nat.le_of_ble_eq_true rfl) rfl ?_
      (repeat' ((conv=>whnf);first|with_reducible refine gA ?_|((with_reducible refine callE_id ?_); (refine CallE.inl ?_)) | ((with_reducible refine callI_id ?_); first | with_reducible refine CallI.inl ti_ok i79 rfl ?_ | with_reducible refine CallI.inl ti_ok i93 rfl ?_ | with_reducible refine CallI.inl ti_ok i108 rfl ?_) | ((with_reducible refine atD_id ?_); first | refine AtD.eq h97 ?_ | refine AtD.eq hE ?_) | ((with_reducible refine slF_id ?_); refine SlF.mk ⟨E.map encE, hrows, ?_⟩) | ((with_reducible refine letE_id ?_); refine LetE.mk ((E.take k).map encE) (List.map_take) ?_)|(with_reducible first|refine gB ?_|refine gZ (fun x hx hu=>?_)|refine gY (fun x hx=>?_)|refine gE ?_|refine Both.mk ?_ ?_|refine gS (fun h=>?_) (fun h=>?_)|refine Spl.nt ?_|refine Spl.mk (fun h=>?_) (fun h=>?_))))
      refine loop_mem0 ti_ok (fun j : Nat => j ≤ k ∧ ((E.take k).take j).any (fun o => o.u && (decide (o.p = e.p) && decide (o.n = e.n))) = false) (lwS (E.take k) 94 3 4 k) (fun j => k - j) 0 ⟨Nat.zero_le _, rfl⟩ ⟨rfl, rfl, it_eq (by rw [hlen]), rfl, trivial⟩ rfl ?_
      intro j ⟨hj, ha⟩
      by_cases hjk : j < k
      · (repeat' ((conv=>whnf);first|with_reducible refine gA ?_|((with_reducible refine callI_id ?_); first | with_reducible refine CallI.inl ti_ok i94 rfl ?_ | with_reducible refine CallI.inl ti_ok i80 rfl ?_)|(with_reducible first|refine gB ?_|refine gZ (fun x hx hu=>?_)|refine gY (fun x hx=>?_)|refine gE ?_|refine Both.mk ?_ ?_|refine gS (fun h=>?_) (fun h=>?_)|refine Spl.nt ?_|refine Spl.mk (fun h=>?_) (fun h=>?_))))
        all_goals (have hx' := hx; first
          | (refine againM0 (j + 1) ⟨hjk, any_take hx ha (by first | (simp [(by assumption : x.u = false)]; done) | (simp [(by assumption : ¬ x.p = e.p)]; done) | (simp [(by assumption : ¬ x.n = e.n)]; done))⟩ (by dsimp only; omega) (And.intro rfl (And.intro rfl (And.intro rfl (And.intro (it_eq (by omega)) trivial)))) (by (repeat (first | exact trivial | refine And.intro rfl ?_))) rfl; done)
          | (refine bl_eq (any_r (any_yes hx hjk (by simp [(by assumption : x.u = true), (by assumption : x.p = e.p), (by assumption : x.n = e.n)]))); done))
      · have hjk2 : j = k := by omega
        rw [hjk2, List.take_of_length_le (by rw [List.length_take]; omega)] at ha
        (repeat' ((conv=>whnf);first|with_reducible refine gA ?_|(with_reducible first|refine gB ?_|refine gZ (fun x hx hu=>?_)|refine gY (fun x hx=>?_)|refine gE ?_|refine Both.mk ?_ ?_|refine gS (fun h=>?_) (fun h=>?_)|refine Spl.nt ?_|refine Spl.mk (fun h=>?_) (fun h=>?_))))
        exact bl_eq (any_f ha)
    · have hlt : (E.take k).length = k := by rw [List.length_take, h.e]; omega
      have hlen : ((E.take k).map encE).length = k := by rw [List.length_map, hlt]
      refine FnC.intro ti_ok Tryz.func55 rfl Tryz.ntmps55 Tryz.call55 rfl (Nat.le_of_ble_eq_true rfl) rfl ?_
      (repeat' ((conv=>whnf);first|with_reducible refine gA ?_|((with_reducible refine callE_id ?_); (refine CallE.inl ?_)) | ((with_reducible refine callI_id ?_); first | with_reducible refine CallI.inl ti_ok i79 rfl ?_ | with_reducible refine CallI.inl ti_ok i93 rfl ?_ | with_reducible refine CallI.inl ti_ok i108 rfl ?_) | ((with_reducible refine atD_id ?_); first | refine AtD.eq h97 ?_ | refine AtD.eq hE ?_) | ((with_reducible refine slF_id ?_); refine SlF.mk ⟨E.map encE, hrows, ?_⟩) | ((with_reducible refine letE_id ?_); refine LetE.mk ((E.take k).map encE) (List.map_take) ?_)|(with_reducible first|refine gB ?_|refine gZ (fun x hx hu=>?_)|refine gY (fun x hx=>?_)|refine gE ?_|refine Both.mk ?_ ?_|refine gS (fun h=>?_) (fun h=>?_)|refine Spl.nt ?_|refine Spl.mk (fun h=>?_) (fun h=>?_))))
      refine loop_mem0 ti_ok (fun j : Nat => j ≤ k ∧ ((E.take k).take j).any (fun o => o.u && decide (o.t = e.t)) = false) (lwS (E.take k) 94 3 4 k) (fun j => k - j) 0 ⟨Nat.zero_le _, rfl⟩ ⟨rfl, rfl, it_eq (by rw [hlen]), rfl, trivial⟩ rfl ?_
      intro j ⟨hj, ha⟩
      by_cases hjk : j < k
      · (repeat' ((conv=>whnf);first|with_reducible refine gA ?_|((with_reducible refine callI_id ?_); first | with_reducible refine CallI.inl ti_ok i94 rfl ?_ | with_reducible refine CallI.inl ti_ok i81 rfl ?_)|(with_reducible first|refine gB ?_|refine gZ (fun x hx hu=>?_)|refine gY (fun x hx=>?_)|refine gE ?_|refine Both.mk ?_ ?_|refine gS (fun h=>?_) (fun h=>?_)|refine Spl.nt ?_|refine Spl.mk (fun h=>?_) (fun h=>?_))))
        all_goals (have hx' := hx; first
          | (refine againM0 (j + 1) ⟨hjk, any_take hx ha (by first | (simp [(by assumption : x.u = false)]; done) | (simp [(by assumption : ¬ x.t = e.t)]; done))⟩ (by dsimp only; omega) (And.intro rfl (And.intro rfl (And.intro rfl (And.intro (it_eq (by omega)) trivial)))) (by (repeat (first | exact trivial | refine And.intro rfl ?_))) rfl; done)
          | (refine bl_eq (any_r (any_yes hx hjk (by simp [(by assumption : x.u = true), (by assumption : x.t = e.t)]))); done))
      · have hjk2 : j = k := by omega
        rw [hjk2, List.take_of_length_le (by rw [List.length_take]; omega)] at ha
        (repeat' ((conv=>whnf);first|with_reducible refine gA ?_|(with_reducible first|refine gB ?_|refine gZ (fun x hx hu=>?_)|refine gY (fun x hx=>?_)|refine gE ?_|refine Both.mk ?_ ?_|refine gS (fun h=>?_) (fun h=>?_)|refine Spl.nt ?_|refine Spl.mk (fun h=>?_) (fun h=>?_))))
        exact bl_eq (any_f ha)
end Go.Proofs.YtboohandlmnjkaaGreatDoor

/- The document's answer: what is reached; problems of entries. Conditions: none. -/
namespace Go.Proofs.YtboohandlmnjkaaGreatDoor
open Go.Sy
set_option maxRecDepth 100000
set_option linter.all false
theorem xE_at (f : Int → List UInt8) {k : Nat} (h : k < 24) : (xE f 24)[k]? = some (entAt f (k : Nat)) := by
  have h1 : k < (xE f 24).length := by rw [xE_len]; omega
  rw [List.getElem?_eq_getElem h1, xE_get, if_pos h]
theorem xE_getD (f : Int → List UInt8) {k : Nat} (h : k < 24) : (xE f 24).getD k ent0 = entAt f (k : Nat) := by rw [List.getD_eq_getElem?_getD, xE_at f h]; rfl
section
variable {R : List Bool} {n : Nat} {b : Bool} {ty : Ty} {off i j : Nat}
end
end Go.Proofs.YtboohandlmnjkaaGreatDoor

/- The document's answer: numbers; problems. Conditions: none. -/
namespace Go.Proofs.YtboohandlmnjkaaGreatDoor
open Go.Sy
set_option maxRecDepth 100000
set_option linter.all false
end Go.Proofs.YtboohandlmnjkaaGreatDoor

/- The document's answer: all problems; the checker's numbers. Conditions: none. -/
namespace Go.Proofs.YtboohandlmnjkaaGreatDoor
open Go.Sy
set_option maxRecDepth 100000
set_option linter.all false
def encP (x : Int × Int) : List D := [.it .i64 x.1, .it .i64 x.2]
/-- All problems. -/
def probs (od : Nat → Bool) (I : List Ino) (E : List Ent) (own : Nat → Nat) : List (Int × Int) := prbK (prbP od I E (reachR (kdI I) E)) 120 ++ prbB own 24
def s1 (a : Nat) (i : Nat) : List (Nat × AV) := [(a, .d (.it .i64 ((i + 1 : Nat) : Nat)))]
def s2 (i k : Nat) : List (Nat × AV) := [(5, .d (.it .i64 ((i + 1 : Nat) : Nat))), (6, .d (.it .i64 (k : Nat)))]
theorem map_encP (L : List (Int × Int)) (x : Int × Int) : (L ++ [x]).map encP = L.map encP ++ [encP x] := by rw [List.map_append]; rfl
end Go.Proofs.YtboohandlmnjkaaGreatDoor

/- All problems of a disk. Conditions: none. -/
namespace Go.Proofs.YtboohandlmnjkaaGreatDoor
open Go.Sy
set_option maxRecDepth 100000
set_option linter.all false
def dod (d : Option Dk) (k : Nat) : Bool := decide (oddP d (k : Nat))
def ckA (F : Func) (d : Option Dk) (I : List Ino) (E : List Ent) (R : List Bool) (sl : List (Nat × AV)) (L : List (Int × Int)) : S := ⟨(0, .yld 9) :: (1, .ptr 2 0) :: sl, [(9, rgL 8 F), (8, .frame 14 [(2, .ptr 6 0)]), (6, .cells 1 [.ts 2 (L.map encP) 10]), (10, .tail 85 true), (5, .frame 6 []), (3, .frame 8 []), (2, .cells 1 [.d (.fp 209 (encX d I E R))])], 11⟩
def c1 (a i : Nat) : List (Nat × AV) := [(a, .d (.it .i64 ((i + 1 : Nat) : Nat)))]
def c2 (i k : Nat) : List (Nat × AV) := [(3, .d (.it .i64 ((i + 1 : Nat) : Nat))), (10, .d (.it .i64 (k : Nat)))]
theorem wk_trC {N : Nat} {σ τ τ' : S} (e : τ' = τ) (h : Wk N σ τ') : Wk N σ τ := by rw [← e]; exact h
theorem cells_ts2 {a b : List (List D)} (h : a = b) : some (Ob.cells 1 [.ts 2 a 10]) = some (Ob.cells 1 [.ts 2 b 10]) := by rw [h]
set_option maxHeartbeats 8000000 in
theorem check_ok (d : Option Dk) (hd : DkOK d) : FnC Tryz.prog 34 [.d (encD d)] (.d (.fs 2 ((probs (dod d) (xI (rdS d) 16) (xE (rdS d) 24) (fun b => ownK (fun i => (xI (rdS d) 16).getD i ino0) (fun i => decide (takP (rdS d) (i : Nat))) (b : Nat) 16)).map encP))) := by
  have hr := xread_ok d hd
  have hl : (reachR (kdI (xI (rdS d) 16)) (xE (rdS d) 24)).length = 16 := by unfold reachR; rw [iterR_len]; rfl
  have hx := xok_L (rdS d) 16 24 hl
  have hent := fun kind k hk h1 => hasE_ok hd hx kind k hk h1
  have hown := fun b => own_ok hd hx b
  unfold probs
  have hdod : (fun k => decide (oddP d (k : Nat))) = dod d := rfl
  rw [hdod] at hent
  generalize hRR : reachR (kdI (xI (rdS d) 16)) (xE (rdS d) 24) = R at *
  generalize hII : xI (rdS d) 16 = I at *
  generalize hEE : xE (rdS d) 24 = E at *
  generalize prbP (dod d) I E R = P at *
  have hPl := fun q => prbK_len P q
  have hBl := fun q => prbB_len (fun b => ownK (fun i => I.getD i ino0) (fun i => decide (takP (rdS d) (i : Nat))) (b : Nat) 16) q
  have hMl : ∀ L : List (Int × Int), (L.map encP).length = L.length := fun L => List.length_map ..
  refine FnC.intro ti_ok Tryz.func34 rfl Tryz.ntmps34 Tryz.call34 rfl (Nat.le_of_ble_eq_true rfl) rfl ?_
  (repeat' ((conv=>whnf);first|with_reducible refine gA ?_|((with_reducible refine callE_id ?_); first | (refine CallE.con ⟨_, hr, ?_⟩) | refine CallE.inl ?_) | ((with_reducible refine callI_id ?_); first | with_reducible refine CallI.inl ti_ok i28 rfl ?_ | with_reducible refine CallI.inl ti_ok i62 rfl ?_ | refine CallI.inlN 2 ti_ok i85 rfl rfl rfl rfl ?_)|(with_reducible first|refine gB ?_|refine gZ (fun x hx hu=>?_)|refine gY (fun x hx=>?_)|refine gE ?_|refine Both.mk ?_ ?_|refine gS (fun h=>?_) (fun h=>?_)|refine Spl.nt ?_|refine Spl.mk (fun h=>?_) (fun h=>?_))))
  refine RangeS.intro ti_ok i54 rfl rfl ?_
  (repeat' ((conv=>whnf);first|with_reducible refine gA ?_|(with_reducible first|refine gB ?_|refine gZ (fun x hx hu=>?_)|refine gY (fun x hx=>?_)|refine gE ?_|refine Both.mk ?_ ?_|refine gS (fun h=>?_) (fun h=>?_)|refine Spl.nt ?_|refine Spl.mk (fun h=>?_) (fun h=>?_))))
  conv => whnf
  refine LoopS.wk (Wk.nlTs 6 0 1 2 85 (by with_unfolding_all exact rfl) (by with_unfolding_all exact rfl)) ?_
  refine LoopS.wk (τ := ckA Tryz.f85 d I E R (c1 3 0) []) (Wk.enF (And.intro rfl (And.intro rfl (And.intro rfl trivial))) (by (repeat (first | exact trivial | refine And.intro (obw_eq rfl (by with_unfolding_all exact rfl)) ?_ | refine And.intro (obw_fr (by with_unfolding_all exact rfl) (by (repeat (first | exact trivial | refine And.intro (by with_unfolding_all exact rfl) ?_)))) ?_))) rfl) ?_
  refine loop_ruleW ti_ok (fun i : Nat => i ≤ 5) (fun i => ckA Tryz.f85 d I E R (c1 3 i) (prbK P (24 * i))) (fun i => 5 - i) 0 (Nat.zero_le _) (Wk.en ⟨And.intro rfl (And.intro rfl (And.intro rfl trivial)), (by (repeat (first | exact trivial | refine And.intro rfl ?_))), rfl⟩) ?_
  intro i hi
  by_cases hi5 : i < 5
  · (repeat' ((conv=>whnf);first|with_reducible refine gA ?_|(with_reducible first|refine gB ?_|refine gZ (fun x hx hu=>?_)|refine gY (fun x hx=>?_)|refine gE ?_|refine Both.mk ?_ ?_|refine gS (fun h=>?_) (fun h=>?_)|refine Spl.nt ?_|refine Spl.mk (fun h=>?_) (fun h=>?_))))
    conv => whnf
    refine loop_ruleW ti_ok (fun k : Nat => k ≤ 24) (fun k => ckA Tryz.f85 d I E R (c2 i k) (prbK P (24 * i + k))) (fun k => 24 - k) 0 (Nat.zero_le _) (Wk.enF (And.intro rfl (And.intro rfl (And.intro rfl (And.intro rfl trivial)))) (by (repeat (first | exact trivial | refine And.intro (obw_eq rfl (by with_unfolding_all exact rfl)) ?_ | refine And.intro (obw_fr (by with_unfolding_all exact rfl) (by (repeat (first | exact trivial | refine And.intro (by with_unfolding_all exact rfl) ?_)))) ?_))) rfl) ?_
    intro k hk
    by_cases hk24 : k < 24
    · have hek := hent (i + 1) k hk24 (by omega)
      have h1 := hPl (24 * i + k)
      have h2 := hMl (prbK P (24 * i + k))
      by_cases hP : P (i + 1) k = false
      · have hno := prbK_no (P := P) hk24 hP
        rw [hP] at hek
        (repeat' ((conv=>whnf);first|with_reducible refine gA ?_|((with_reducible refine callE_id ?_); (refine CallE.con ⟨_, hek, ?_⟩))|(with_reducible first|refine gB ?_|refine gZ (fun x hx hu=>?_)|refine gY (fun x hx=>?_)|refine gE ?_|refine Both.mk ?_ ?_|refine gS (fun h=>?_) (fun h=>?_)|refine Spl.nt ?_|refine Spl.mk (fun h=>?_) (fun h=>?_))))
        refine ⟨k + 1, hk24, by first | omega | (dsimp only; omega), wk_trC (congrArg (ckA Tryz.f85 d I E R (c2 i (k + 1))) hno.symm) (Wk.enF (And.intro rfl (And.intro rfl (And.intro rfl (And.intro (it_eq (by omega)) trivial)))) (by (repeat (first | exact trivial | refine And.intro (obw_eq rfl (by with_unfolding_all exact rfl)) ?_ | refine And.intro (obw_fr (by with_unfolding_all exact rfl) (by (repeat (first | exact trivial | refine And.intro (by with_unfolding_all exact rfl) ?_)))) ?_))) rfl)⟩
      · have hP : P (i + 1) k = true := by simpa using hP
        have hyes := prbK_yes (P := P) hk24 hP
        rw [hP] at hek
        (repeat' ((conv=>whnf);first|with_reducible refine gA ?_|((with_reducible refine callE_id ?_); (refine CallE.con ⟨_, hek, ?_⟩)) | with_reducible refine YieldI.intro ti_ok (by with_unfolding_all exact rfl) (by with_unfolding_all exact rfl) (by with_unfolding_all exact rfl) ?_|(with_reducible first|refine gB ?_|refine gZ (fun x hx hu=>?_)|refine gY (fun x hx=>?_)|refine gE ?_|refine Both.mk ?_ ?_|refine gS (fun h=>?_) (fun h=>?_)|refine Spl.nt ?_|refine Spl.mk (fun h=>?_) (fun h=>?_))))
        refine ⟨k + 1, hk24, by first | omega | (dsimp only; omega), wk_trC (congrArg (ckA Tryz.f85 d I E R (c2 i (k + 1))) hyes.symm) (Wk.enF (And.intro rfl (And.intro rfl (And.intro rfl (And.intro (it_eq (by omega)) trivial)))) (And.intro (obw_eq rfl rfl) (And.intro (obw_fr rfl (And.intro rfl trivial)) (And.intro (obw_eq rfl (cells_ts2 ?_)) (And.intro (obw_eq rfl rfl) (And.intro (obw_fr rfl trivial) (And.intro (obw_fr rfl trivial) (And.intro (obw_eq rfl rfl) trivial))))))) rfl)⟩
        rw [map_encP]; rfl
    · have hke : k = 24 := by omega
      (repeat' ((conv=>whnf);first|with_reducible refine gA ?_|(with_reducible first|refine gB ?_|refine gZ (fun x hx hu=>?_)|refine gY (fun x hx=>?_)|refine gE ?_|refine Both.mk ?_ ?_|refine gS (fun h=>?_) (fun h=>?_)|refine Spl.nt ?_|refine Spl.mk (fun h=>?_) (fun h=>?_))))
      refine ⟨i + 1, hi5, by first | omega | (dsimp only; omega), wk_trC (congrArg (ckA Tryz.f85 d I E R (c1 3 (i + 1))) (congrArg (prbK P) (show 24 * i + k = 24 * (i + 1) by omega))) (Wk.enF (And.intro rfl (And.intro rfl (And.intro (it_eq (by omega)) trivial))) (by (repeat (first | exact trivial | refine And.intro (obw_eq rfl (by with_unfolding_all exact rfl)) ?_ | refine And.intro (obw_fr (by with_unfolding_all exact rfl) (by (repeat (first | exact trivial | refine And.intro (by with_unfolding_all exact rfl) ?_)))) ?_))) rfl)⟩
  · have hie : i = 5 := by omega
    rw [hie]
    (repeat' ((conv=>whnf);first|with_reducible refine gA ?_|(with_reducible first|refine gB ?_|refine gZ (fun x hx hu=>?_)|refine gY (fun x hx=>?_)|refine gE ?_|refine Both.mk ?_ ?_|refine gS (fun h=>?_) (fun h=>?_)|refine Spl.nt ?_|refine Spl.mk (fun h=>?_) (fun h=>?_))))
    conv => whnf
    refine loop_ruleW ti_ok (fun q : Nat => q ≤ 24) (fun q => ckA Tryz.f85 d I E R (c1 5 q) (prbK P 120 ++ prbB (fun b => ownK (fun i => I.getD i ino0) (fun i => decide (takP (rdS d) (i : Nat))) (b : Nat) 16) q)) (fun q => 24 - q) 0 (Nat.zero_le _) (wk_trC (congrArg (ckA Tryz.f85 d I E R (c1 5 0)) (show prbK P 120 = prbK P 120 ++ prbB (fun b => ownK (fun i => I.getD i ino0) (fun i => decide (takP (rdS d) (i : Nat))) (b : Nat) 16) 0 by rw [show prbB (fun b => ownK (fun i => I.getD i ino0) (fun i => decide (takP (rdS d) (i : Nat))) (b : Nat) 16) 0 = [] from rfl, List.append_nil])) (Wk.enF (And.intro rfl (And.intro rfl (And.intro rfl trivial))) (by (repeat (first | exact trivial | refine And.intro (obw_eq rfl (by with_unfolding_all exact rfl)) ?_ | refine And.intro (obw_fr (by with_unfolding_all exact rfl) (by (repeat (first | exact trivial | refine And.intro (by with_unfolding_all exact rfl) ?_)))) ?_))) rfl)) ?_
    intro q hq
    by_cases hq24 : q < 24
    · have how := hown ((q + 1 : Nat) : Int)
      have h1 := hPl 120
      have h3 := hBl q
      have h2 := hMl (prbK P 120 ++ prbB (fun b => ownK (fun i => I.getD i ino0) (fun i => decide (takP (rdS d) (i : Nat))) (b : Nat) 16) q)
      rw [List.length_append] at h2
      have hle := ownK_le (fun i => I.getD i ino0) (fun i => decide (takP (rdS d) (i : Nat))) ((q + 1 : Nat) : Int) 16
      have hyes := prbB_yes (own := (fun b => ownK (fun i => I.getD i ino0) (fun i => decide (takP (rdS d) (i : Nat))) (b : Nat) 16)) (k := q)
      have hno := prbB_no (own := (fun b => ownK (fun i => I.getD i ino0) (fun i => decide (takP (rdS d) (i : Nat))) (b : Nat) 16)) (k := q)
      by_cases ho : 1 < ownK (fun i => I.getD i ino0) (fun i => decide (takP (rdS d) (i : Nat))) ((q + 1 : Nat) : Int) 16
      · (repeat' ((conv=>whnf);first|with_reducible refine gA ?_|((with_reducible refine callE_id ?_); (refine CallE.con ⟨_, how, ?_⟩)) | with_reducible refine YieldI.intro ti_ok (by with_unfolding_all exact rfl) (by with_unfolding_all exact rfl) (by with_unfolding_all exact rfl) ?_|(with_reducible first|refine gB ?_|refine gZ (fun x hx hu=>?_)|refine gY (fun x hx=>?_)|refine gE ?_|refine Both.mk ?_ ?_|refine gS (fun h=>?_) (fun h=>?_)|refine Spl.nt ?_|refine Spl.mk (fun h=>?_) (fun h=>?_))))
        refine ⟨q + 1, hq24, by first | omega | (dsimp only; omega), wk_trC (congrArg (ckA Tryz.f85 d I E R (c1 5 (q + 1))) ((List.append_assoc _ _ _).trans (congrArg (prbK P 120 ++ ·) (hyes ho).symm))) (Wk.enF (And.intro rfl (And.intro rfl (And.intro (it_eq (by omega)) trivial))) (And.intro (obw_eq rfl rfl) (And.intro (obw_fr rfl (And.intro rfl trivial)) (And.intro (obw_eq rfl (cells_ts2 ?_)) (And.intro (obw_eq rfl rfl) (And.intro (obw_fr rfl trivial) (And.intro (obw_fr rfl trivial) (And.intro (obw_eq rfl rfl) trivial))))))) rfl)⟩
        rw [map_encP]; rfl
      · (repeat' ((conv=>whnf);first|with_reducible refine gA ?_|((with_reducible refine callE_id ?_); (refine CallE.con ⟨_, how, ?_⟩))|(with_reducible first|refine gB ?_|refine gZ (fun x hx hu=>?_)|refine gY (fun x hx=>?_)|refine gE ?_|refine Both.mk ?_ ?_|refine gS (fun h=>?_) (fun h=>?_)|refine Spl.nt ?_|refine Spl.mk (fun h=>?_) (fun h=>?_))))
        refine ⟨q + 1, hq24, by first | omega | (dsimp only; omega), wk_trC (congrArg (ckA Tryz.f85 d I E R (c1 5 (q + 1))) (congrArg (prbK P 120 ++ ·) (hno ho).symm)) (Wk.enF (And.intro rfl (And.intro rfl (And.intro (it_eq (by omega)) trivial))) (by (repeat (first | exact trivial | refine And.intro (obw_eq rfl (by with_unfolding_all exact rfl)) ?_ | refine And.intro (obw_fr (by with_unfolding_all exact rfl) (by (repeat (first | exact trivial | refine And.intro (by with_unfolding_all exact rfl) ?_)))) ?_))) rfl)⟩
    · have hqe : q = 24 := by omega
      rw [hqe]
      (repeat' ((conv=>whnf);first|with_reducible refine gA ?_|(with_reducible first|refine gB ?_|refine gZ (fun x hx hu=>?_)|refine gY (fun x hx=>?_)|refine gE ?_|refine Both.mk ?_ ?_|refine gS (fun h=>?_) (fun h=>?_)|refine Spl.nt ?_|refine Spl.mk (fun h=>?_) (fun h=>?_))))
      rfl
end Go.Proofs.YtboohandlmnjkaaGreatDoor

/- Is a disk clean? Conditions: none. -/
namespace Go.Proofs.YtboohandlmnjkaaGreatDoor
open Go.Sy
set_option maxRecDepth 100000
set_option linter.all false
def dOwn (d : Option Dk) (b : Nat) : Nat := ownK (fun i => (xI (rdS d) 16).getD i ino0) (fun i => decide (takP (rdS d) (i : Nat))) (b : Nat) 16
theorem prbK_ne {P : Nat → Nat → Bool} {i k : Nat} (hi : i < 5) (hk : k < 24) (h : P (i + 1) k = true) : prbK P 120 ≠ [] := fun q => by
  unfold prbK at q
  have hm : 24 * i + k ∈ (List.range 120).filter fun j => P (j / 24 + 1) (j % 24) := by
    rw [List.mem_filter]
    refine ⟨List.mem_range.2 (by omega), ?_⟩
    rw [show (24 * i + k) / 24 = i by omega, show (24 * i + k) % 24 = k by omega]
    exact h
  rw [List.map_eq_nil_iff.1 q] at hm
  cases hm
theorem prbB_ne {own : Nat → Nat} {k : Nat} (hk : k < 24) (h : 1 < own (k + 1)) : prbB own 24 ≠ [] := fun q => by
  unfold prbB at q
  have hm : k ∈ (List.range 24).filter fun j => decide (1 < own (j + 1)) := by
    rw [List.mem_filter]
    exact ⟨List.mem_range.2 hk, decide_eq_true h⟩
  rw [List.map_eq_nil_iff.1 q] at hm
  cases hm
def clA (F : Func) (d : Option Dk) (I : List Ino) (E : List Ent) (R : List Bool) (sl : List (Nat × AV)) : S := ⟨(0, .yld 4) :: (1, .ptr 2 0) :: sl, [(4, rgL 3 F), (3, .frame 8 [(2, .ptr 0 0)]), (2, .cells 1 [.d (.fp 209 (encX d I E R))]), (0, .cells 1 [.d (.bl false)])], 5⟩
set_option maxHeartbeats 8000000 in
theorem clean_ok (d : Option Dk) (hd : DkOK d) : FnC Tryz.prog 8 [.d (encD d)] (.d (.bl (decide (probs (dod d) (xI (rdS d) 16) (xE (rdS d) 24) (dOwn d) = [])))) := by
  have hr := xread_ok d hd
  have hl : (reachR (kdI (xI (rdS d) 16)) (xE (rdS d) 24)).length = 16 := by unfold reachR; rw [iterR_len]; rfl
  have hx := xok_L (rdS d) 16 24 hl
  have hent := fun kind k hk h1 => hasE_ok hd hx kind k hk h1
  have hown := fun b => own_ok hd hx b
  unfold probs
  have hdod : (fun k => decide (oddP d (k : Nat))) = dod d := rfl
  rw [hdod] at hent
  generalize hRR : reachR (kdI (xI (rdS d) 16)) (xE (rdS d) 24) = R at *
  have hO : ∀ b : Nat, ownK (fun i => (xI (rdS d) 16).getD i ino0) (fun i => decide (takP (rdS d) (i : Nat))) (b : Nat) 16 = dOwn d b := fun b => rfl
  generalize dOwn d = O at *
  generalize hII : xI (rdS d) 16 = I at *
  generalize hEE : xE (rdS d) 24 = E at *
  generalize prbP (dod d) I E R = P at *
  refine FnC.intro ti_ok Tryz.func8 rfl Tryz.ntmps8 Tryz.call8 rfl (Nat.le_of_ble_eq_true rfl) rfl ?_
  (repeat' ((conv=>whnf);first|with_reducible refine gA ?_|((with_reducible refine callE_id ?_); first | (refine CallE.con ⟨_, hr, ?_⟩) | refine CallE.inl ?_) | ((with_reducible refine callI_id ?_); first | with_reducible refine CallI.inl ti_ok i28 rfl ?_)|(with_reducible first|refine gB ?_|refine gZ (fun x hx hu=>?_)|refine gY (fun x hx=>?_)|refine gE ?_|refine Both.mk ?_ ?_|refine gS (fun h=>?_) (fun h=>?_)|refine Spl.nt ?_|refine Spl.mk (fun h=>?_) (fun h=>?_))))
  refine RangeS.intro ti_ok i54 rfl rfl ?_
  (repeat' ((conv=>whnf);first|with_reducible refine gA ?_|(with_reducible first|refine gB ?_|refine gZ (fun x hx hu=>?_)|refine gY (fun x hx=>?_)|refine gE ?_|refine Both.mk ?_ ?_|refine gS (fun h=>?_) (fun h=>?_)|refine Spl.nt ?_|refine Spl.mk (fun h=>?_) (fun h=>?_))))
  conv => whnf
  refine LoopS.wk (τ := clA Tryz.f8 d I E R (c1 3 0)) (Wk.enF (And.intro rfl (And.intro rfl (And.intro rfl trivial))) (by (repeat (first | exact trivial | refine And.intro (obw_eq rfl (by with_unfolding_all exact rfl)) ?_ | refine And.intro (obw_fr (by with_unfolding_all exact rfl) (by (repeat (first | exact trivial | refine And.intro (by with_unfolding_all exact rfl) ?_)))) ?_))) rfl) ?_
  refine loop_ruleW ti_ok (fun i : Nat => i ≤ 5 ∧ prbK P (24 * i) = []) (fun i => clA Tryz.f8 d I E R (c1 3 i)) (fun i => 5 - i) 0 ⟨Nat.zero_le _, rfl⟩ (Wk.en ⟨And.intro rfl (And.intro rfl (And.intro rfl trivial)), (by (repeat (first | exact trivial | refine And.intro rfl ?_))), rfl⟩) ?_
  intro i ⟨hi, hn0⟩
  by_cases hi5 : i < 5
  · (repeat' ((conv=>whnf);first|with_reducible refine gA ?_|(with_reducible first|refine gB ?_|refine gZ (fun x hx hu=>?_)|refine gY (fun x hx=>?_)|refine gE ?_|refine Both.mk ?_ ?_|refine gS (fun h=>?_) (fun h=>?_)|refine Spl.nt ?_|refine Spl.mk (fun h=>?_) (fun h=>?_))))
    conv => whnf
    refine loop_ruleW ti_ok (fun k : Nat => k ≤ 24 ∧ prbK P (24 * i + k) = []) (fun k => clA Tryz.f8 d I E R (c2 i k)) (fun k => 24 - k) 0 ⟨Nat.zero_le _, hn0⟩ (Wk.enF (And.intro rfl (And.intro rfl (And.intro rfl (And.intro rfl trivial)))) (by (repeat (first | exact trivial | refine And.intro (obw_eq rfl (by with_unfolding_all exact rfl)) ?_ | refine And.intro (obw_fr (by with_unfolding_all exact rfl) (by (repeat (first | exact trivial | refine And.intro (by with_unfolding_all exact rfl) ?_)))) ?_))) rfl) ?_
    intro k ⟨hk, hn⟩
    by_cases hk24 : k < 24
    · have hek := hent (i + 1) k hk24 (by omega)
      by_cases hP : P (i + 1) k = false
      · have hno := (prbK_no (P := P) hk24 hP).trans hn
        rw [hP] at hek
        (repeat' ((conv=>whnf);first|with_reducible refine gA ?_|((with_reducible refine callE_id ?_); (refine CallE.con ⟨_, hek, ?_⟩))|(with_reducible first|refine gB ?_|refine gZ (fun x hx hu=>?_)|refine gY (fun x hx=>?_)|refine gE ?_|refine Both.mk ?_ ?_|refine gS (fun h=>?_) (fun h=>?_)|refine Spl.nt ?_|refine Spl.mk (fun h=>?_) (fun h=>?_))))
        refine ⟨k + 1, ⟨hk24, hno⟩, by first | omega | (dsimp only; omega), (Wk.enF (And.intro rfl (And.intro rfl (And.intro rfl (And.intro (it_eq (by omega)) trivial)))) (by (repeat (first | exact trivial | refine And.intro (obw_eq rfl (by with_unfolding_all exact rfl)) ?_ | refine And.intro (obw_fr (by with_unfolding_all exact rfl) (by (repeat (first | exact trivial | refine And.intro (by with_unfolding_all exact rfl) ?_)))) ?_))) rfl)⟩
      · have hP : P (i + 1) k = true := by simpa using hP
        have hbad : ¬ (prbK P 120 ++ prbB O 24 = []) := fun q => prbK_ne hi5 hk24 hP (List.append_eq_nil_iff.1 q).1
        rw [hP] at hek
        (repeat' ((conv=>whnf);first|with_reducible refine gA ?_|((with_reducible refine callE_id ?_); (refine CallE.con ⟨_, hek, ?_⟩)) | with_reducible refine YieldI.intro ti_ok (by with_unfolding_all exact rfl) (by with_unfolding_all exact rfl) (by with_unfolding_all exact rfl) ?_|(with_reducible first|refine gB ?_|refine gZ (fun x hx hu=>?_)|refine gY (fun x hx=>?_)|refine gE ?_|refine Both.mk ?_ ?_|refine gS (fun h=>?_) (fun h=>?_)|refine Spl.nt ?_|refine Spl.mk (fun h=>?_) (fun h=>?_))))
        exact bl_ff hbad
    · have hke : k = 24 := by omega
      (repeat' ((conv=>whnf);first|with_reducible refine gA ?_|(with_reducible first|refine gB ?_|refine gZ (fun x hx hu=>?_)|refine gY (fun x hx=>?_)|refine gE ?_|refine Both.mk ?_ ?_|refine gS (fun h=>?_) (fun h=>?_)|refine Spl.nt ?_|refine Spl.mk (fun h=>?_) (fun h=>?_))))
      refine ⟨i + 1, ⟨hi5, by rw [← hn]; congr 1; omega⟩, by first | omega | (dsimp only; omega), (Wk.enF (And.intro rfl (And.intro rfl (And.intro (it_eq (by omega)) trivial))) (by (repeat (first | exact trivial | refine And.intro (obw_eq rfl (by with_unfolding_all exact rfl)) ?_ | refine And.intro (obw_fr (by with_unfolding_all exact rfl) (by (repeat (first | exact trivial | refine And.intro (by with_unfolding_all exact rfl) ?_)))) ?_))) rfl)⟩
  · have hie : i = 5 := by omega
    rw [hie] at hn0
    have hn0 : prbK P 120 = [] := hn0
    (repeat' ((conv=>whnf);first|with_reducible refine gA ?_|(with_reducible first|refine gB ?_|refine gZ (fun x hx hu=>?_)|refine gY (fun x hx=>?_)|refine gE ?_|refine Both.mk ?_ ?_|refine gS (fun h=>?_) (fun h=>?_)|refine Spl.nt ?_|refine Spl.mk (fun h=>?_) (fun h=>?_))))
    conv => whnf
    refine loop_ruleW ti_ok (fun q : Nat => q ≤ 24 ∧ prbB O q = []) (fun q => clA Tryz.f8 d I E R (c1 5 q)) (fun q => 24 - q) 0 ⟨Nat.zero_le _, rfl⟩ (Wk.enF (And.intro rfl (And.intro rfl (And.intro rfl trivial))) (by (repeat (first | exact trivial | refine And.intro (obw_eq rfl (by with_unfolding_all exact rfl)) ?_ | refine And.intro (obw_fr (by with_unfolding_all exact rfl) (by (repeat (first | exact trivial | refine And.intro (by with_unfolding_all exact rfl) ?_)))) ?_))) rfl) ?_
    intro q ⟨hq, hn⟩
    by_cases hq24 : q < 24
    · have how := hown ((q + 1 : Nat) : Int)
      have hle := ownK_le (fun i => I.getD i ino0) (fun i => decide (takP (rdS d) (i : Nat))) ((q + 1 : Nat) : Int) 16
      have hOq := hO (q + 1)
      by_cases ho : 1 < ownK (fun i => I.getD i ino0) (fun i => decide (takP (rdS d) (i : Nat))) ((q + 1 : Nat) : Int) 16
      · have hbad : ¬ (prbK P 120 ++ prbB O 24 = []) := fun z => prbB_ne hq24 (by rw [← hOq]; exact ho) (List.append_eq_nil_iff.1 z).2
        (repeat' ((conv=>whnf);first|with_reducible refine gA ?_|((with_reducible refine callE_id ?_); (refine CallE.con ⟨_, how, ?_⟩)) | with_reducible refine YieldI.intro ti_ok (by with_unfolding_all exact rfl) (by with_unfolding_all exact rfl) (by with_unfolding_all exact rfl) ?_|(with_reducible first|refine gB ?_|refine gZ (fun x hx hu=>?_)|refine gY (fun x hx=>?_)|refine gE ?_|refine Both.mk ?_ ?_|refine gS (fun h=>?_) (fun h=>?_)|refine Spl.nt ?_|refine Spl.mk (fun h=>?_) (fun h=>?_))))
        exact bl_ff hbad
      · have hno := (prbB_no (own := O) (k := q) (by rw [← hOq]; exact ho)).trans hn
        (repeat' ((conv=>whnf);first|with_reducible refine gA ?_|((with_reducible refine callE_id ?_); (refine CallE.con ⟨_, how, ?_⟩))|(with_reducible first|refine gB ?_|refine gZ (fun x hx hu=>?_)|refine gY (fun x hx=>?_)|refine gE ?_|refine Both.mk ?_ ?_|refine gS (fun h=>?_) (fun h=>?_)|refine Spl.nt ?_|refine Spl.mk (fun h=>?_) (fun h=>?_))))
        refine ⟨q + 1, ⟨hq24, hno⟩, by first | omega | (dsimp only; omega), (Wk.enF (And.intro rfl (And.intro rfl (And.intro (it_eq (by omega)) trivial))) (by (repeat (first | exact trivial | refine And.intro (obw_eq rfl (by with_unfolding_all exact rfl)) ?_ | refine And.intro (obw_fr (by with_unfolding_all exact rfl) (by (repeat (first | exact trivial | refine And.intro (by with_unfolding_all exact rfl) ?_)))) ?_))) rfl)⟩
    · have hqe : q = 24 := by omega
      rw [hqe] at hn
      (repeat' ((conv=>whnf);first|with_reducible refine gA ?_|(with_reducible first|refine gB ?_|refine gZ (fun x hx hu=>?_)|refine gY (fun x hx=>?_)|refine gE ?_|refine Both.mk ?_ ?_|refine gS (fun h=>?_) (fun h=>?_)|refine Spl.nt ?_|refine Spl.mk (fun h=>?_) (fun h=>?_))))
      exact bl_tt (by rw [hn0, hn]; rfl)
end Go.Proofs.YtboohandlmnjkaaGreatDoor

/- Mending, in plain: what is written for the first problem, and that there are ever less. Conditions: none. -/
namespace Go.Proofs.YtboohandlmnjkaaGreatDoor
open Go.Sy
set_option maxRecDepth 100000
set_option linter.all false
/-- A write is put to those that wait. -/
def wrD (d : Dk) (w : Wr) : Dk := ⟨d.nx + 1, d.safe, d.wait ++ [{ w with e := d.ep }], d.log ++ [encEv { w with e := d.ep }], d.ep⟩
theorem rdS_wr (d : Dk) (w : Wr) (n : Int) (h : 0 ≤ w.a ∧ w.a < d.safe.length) : rdS (some (wrD d w)) n = if n = w.a then w.s else rdS (some d) n := by
  unfold rdS wrD
  dsimp only
  rw [lastAt_snoc]
  by_cases hn : n = w.a
  · subst hn
    rw [if_pos h, if_pos rfl]
    simp
  · rw [if_neg hn]
    have : ¬ w.a = n := fun e => hn e.symm
    simp only [this, if_false]
def entW (f : Int → List UInt8) (k : Nat) : Wr := ⟨17 + (k : Nat), zeroS, 3, (entAt f (k : Nat)).p, 0⟩
/-- Where a block stands among an inode's. -/
def posB (x : Ino) (b : Int) : Option Nat := if x.b0 = b then some 0 else if x.b1 = b then some 1 else if x.b2 = b then some 2 else if x.b3 = b then some 3 else none
def cutI (x : Ino) (i : Nat) : Ino := ⟨x.k, (i : Nat) * 32, if 0 < i then x.b0 else 0, if 1 < i then x.b1 else 0, if 2 < i then x.b2 else 0, if 3 < i then x.b3 else 0⟩
def cutW1 (n : Nat) (x : Ino) : Wr := ⟨1 + (n : Nat), if RI x then inoS x else zeroS, 2, (n : Nat), 0⟩
def w0 : Wr := ⟨0, zeroS, 0, 0, 0⟩
def cutS (o : Option Nat) (t : Bool) (n : Nat) (x : Ino) (r : Wr) : Wr :=
  match o with
  | some i => bif t then cutW1 n (cutI x i) else r
  | none => r
/-- What is written for a block that two files have; by the first k inodes. -/
def cutK (f : Int → List UInt8) (b : Int) : Nat → Wr
  | 0 => w0
  | k + 1 => cutS (posB (inoAt f (k : Nat)) b) (decide (takP f (k : Nat))) k (inoAt f (k : Nat)) (cutK f b k)
theorem cutK_succ (f : Int → List UInt8) (b : Int) (k : Nat) : cutK f b (k + 1) = cutS (posB (inoAt f (k : Nat)) b) (decide (takP f (k : Nat))) k (inoAt f (k : Nat)) (cutK f b k) := rfl
def probsD (d : Option Dk) : List (Int × Int) := probs (dod d) (xI (rdS d) 16) (xE (rdS d) 24) (dOwn d)
def nextW (d : Option Dk) : Option Wr := match probsD d with
  | [] => none
  | p :: _ => some (if p.1 = 6 then cutK (rdS d) p.2 16 else entW (rdS d) p.2.toNat)
theorem probs_head {od : Nat → Bool} {I : List Ino} {E : List Ent} {own : Nat → Nat} {p : Int × Int} {t : List (Int × Int)} (h : probs od I E own = p :: t) :
    (∃ kind k : Nat, 1 ≤ kind ∧ kind ≤ 5 ∧ k < 24 ∧ p = (((kind : Nat) : Int), ((k : Nat) : Int)) ∧ prbP od I E (reachR (kdI I) E) kind k = true) ∨ ∃ b : Nat, 1 ≤ b ∧ b ≤ 24 ∧ p = ((6 : Int), ((b : Nat) : Int)) ∧ 1 < own b := by
  have hm : p ∈ probs od I E own := by rw [h]; exact List.mem_cons_self
  unfold probs prbK prbB at hm
  rcases List.mem_append.1 hm with hm | hm
  · obtain ⟨j, hj, rfl⟩ := List.mem_map.1 hm
    obtain ⟨h1, h2⟩ := List.mem_filter.1 hj
    have h1 := List.mem_range.1 h1
    exact .inl ⟨j / 24 + 1, j % 24, by omega, by omega, by omega, rfl, h2⟩
  · obtain ⟨j, hj, rfl⟩ := List.mem_map.1 hm
    obtain ⟨h1, h2⟩ := List.mem_filter.1 hj
    have h1 := List.mem_range.1 h1
    exact .inr ⟨j + 1, by omega, by omega, rfl, of_decide_eq_true h2⟩
theorem entAt_zero {f : Int → List UInt8} {k : Nat} (h : f (17 + (k : Nat)) = zeroS) : (entAt f (k : Nat)).u = false := by
  unfold entAt
  split
  · rw [h]
    unfold entOf
    rw [if_neg zero_not]; rfl
  · rfl
theorem prb_nz {d : Option Dk} {R : List Bool} {kind k : Nat} (hk : k < 24) (h1 : 1 ≤ kind ∧ kind ≤ 5) (h : prbP (dod d) (xI (rdS d) 16) (xE (rdS d) 24) R kind k = true) : rdS d (17 + (k : Nat)) ≠ zeroS := by
  intro hz
  have hu := entAt_zero hz
  have hk5 : kind = 1 ∨ kind = 2 ∨ kind = 3 ∨ kind = 4 ∨ kind = 5 := by omega
  unfold prbP at h
  rw [xE_getD _ hk] at h
  rcases hk5 with rfl | rfl | rfl | rfl | rfl
  · have h : dod d k = true := h
    have h := of_decide_eq_true h
    have h2 := h.2
    rw [hz] at h2
    have : entOk zeroS = true := decide_eq_true (.inl rfl)
    rw [this] at h2; cases h2
  all_goals (simp only [hu, Bool.false_and] at h; cases h)
def sumK (g : Nat → Nat) : Nat → Nat
  | 0 => 0
  | k + 1 => sumK g k + g k
theorem sumK_eq {g g' : Nat → Nat} : ∀ {k : Nat}, (∀ i, i < k → g' i = g i) → sumK g' k = sumK g k
  | 0, _ => rfl
  | k + 1, h => by
    simp only [sumK]
    rw [sumK_eq (k := k) (fun i hi => h i (by omega)), h k (by omega)]
theorem sumK_lt {g g' : Nat → Nat} {n : Nat} : ∀ {k : Nat}, n < k → (∀ i, i < k → i ≠ n → g' i = g i) → g' n < g n → sumK g' k < sumK g k
  | 0, h, _, _ => by omega
  | k + 1, h, h1, h2 => by
    simp only [sumK]
    by_cases hk : n = k
    · subst hk
      rw [sumK_eq (k := n) (fun i hi => h1 i (by omega) (by omega))]; omega
    · rw [h1 k (by omega) (fun e => hk e.symm)]
      have := sumK_lt (k := k) (by omega) (fun i hi hn => h1 i (by omega) hn) h2
      omega
def nb (x : Ino) : Nat := (if x.b0 = 0 then 0 else 1) + (if x.b1 = 0 then 0 else 1) + (if x.b2 = 0 then 0 else 1) + (if x.b3 = 0 then 0 else 1)
/-- How much there is that can be taken away. -/
def mu (f : Int → List UInt8) : Nat := sumK (fun k => if f (17 + (k : Nat)) = zeroS then 0 else 1) 24 + sumK (fun n => nb (inoAt f (n : Nat))) 16
theorem inoAt_one {f f' : Int → List UInt8} {n : Int} (h : f' (1 + n) = f (1 + n)) : inoAt f' n = inoAt f n := by unfold inoAt; rw [h]
theorem mu_ent {f f' : Int → List UInt8} {k : Nat} (hk : k < 24) (hz : f (17 + (k : Nat)) ≠ zeroS) (hf : ∀ n, f' n = if n = 17 + (k : Nat) then zeroS else f n) : mu f' < mu f := by
  unfold mu
  have h1 : sumK (fun k => if f' (17 + (k : Nat)) = zeroS then 0 else 1) 24 < sumK (fun k => if f (17 + (k : Nat)) = zeroS then 0 else 1) 24 := by
    refine sumK_lt (n := k) hk (fun i _ hne => ?_) ?_
    · show (if f' (17 + (i : Nat)) = zeroS then 0 else 1) = _
      rw [show f' (17 + (i : Nat)) = f (17 + (i : Nat)) by rw [hf]; exact if_neg (by omega)]
    · show (if f' _ = zeroS then 0 else 1) < (if f _ = zeroS then 0 else 1)
      rw [hf, if_pos rfl, if_pos rfl, if_neg hz]; exact Nat.one_pos
  have h2 : sumK (fun n => nb (inoAt f' (n : Nat))) 16 = sumK (fun n => nb (inoAt f (n : Nat))) 16 := by
    refine sumK_eq fun i hi => ?_
    show nb (inoAt f' _) = nb (inoAt f _)
    rw [inoAt_one (f := f) (f' := f') (by rw [hf, if_neg (by omega)])]
  omega
theorem mu_ino {f f' : Int → List UInt8} {n : Nat} {x : Ino} {s : List UInt8} (hn : n < 16) (hx : inoOf s = x) (hlt : nb x < nb (inoAt f (n : Nat))) (hf : ∀ q, f' q = if q = 1 + (n : Nat) then s else f q) : mu f' < mu f := by
  unfold mu
  have h1 : sumK (fun k => if f' (17 + (k : Nat)) = zeroS then 0 else 1) 24 = sumK (fun k => if f (17 + (k : Nat)) = zeroS then 0 else 1) 24 := by
    refine sumK_eq fun i hi => ?_
    show (if f' (17 + (i : Nat)) = zeroS then 0 else 1) = _
    rw [show f' (17 + (i : Nat)) = f (17 + (i : Nat)) by rw [hf]; exact if_neg (by omega)]
  have h2 : sumK (fun n => nb (inoAt f' (n : Nat))) 16 < sumK (fun n => nb (inoAt f (n : Nat))) 16 := by
    refine sumK_lt (n := n) hn (fun i _ hne => ?_) ?_
    · show nb (inoAt f' _) = nb (inoAt f _)
      rw [inoAt_one (f := f) (f' := f') (by rw [hf, if_neg (by omega)])]
    · have : inoAt f' (n : Nat) = x := by
        unfold inoAt
        rw [if_pos (by omega), hf, if_pos rfl, hx]
      show nb (inoAt f' _) < nb (inoAt f _)
      rw [this]; exact hlt
  omega
theorem cutI_RI {x : Ino} (h : RI x) {i : Nat} {b : Int} (hb : 1 ≤ b) (hp : posB x b = some i) : RI (cutI x i) ∧ nb (cutI x i) < nb x ∧ x.k = 1 ∧ i < 4 := by
  unfold posB at hp
  unfold RI at h
  by_cases e0 : x.b0 = b
  · rw [if_pos e0] at hp
    obtain rfl := Option.some.inj hp
    have n0 : ¬ x.b0 = 0 := by omega
    refine ⟨?_, ?_, by omega, by omega⟩
    · unfold RI cutI; simp; omega
    · unfold nb cutI; simp [n0]; omega
  · rw [if_neg e0] at hp
    by_cases e1 : x.b1 = b
    · rw [if_pos e1] at hp
      obtain rfl := Option.some.inj hp
      have n0 : ¬ x.b0 = 0 := by omega
      have n1 : ¬ x.b1 = 0 := by omega
      refine ⟨?_, ?_, by omega, by omega⟩
      · unfold RI cutI; simp; omega
      · unfold nb cutI; simp [n0, n1]; omega
    · rw [if_neg e1] at hp
      by_cases e2 : x.b2 = b
      · rw [if_pos e2] at hp
        obtain rfl := Option.some.inj hp
        have n0 : ¬ x.b0 = 0 := by omega
        have n1 : ¬ x.b1 = 0 := by omega
        have n2 : ¬ x.b2 = 0 := by omega
        refine ⟨?_, ?_, by omega, by omega⟩
        · unfold RI cutI; simp; omega
        · unfold nb cutI; simp [n0, n1, n2]; omega
      · rw [if_neg e2] at hp
        by_cases e3 : x.b3 = b
        · rw [if_pos e3] at hp
          obtain rfl := Option.some.inj hp
          have n0 : ¬ x.b0 = 0 := by omega
          have n1 : ¬ x.b1 = 0 := by omega
          have n2 : ¬ x.b2 = 0 := by omega
          have n3 : ¬ x.b3 = 0 := by omega
          refine ⟨?_, ?_, by omega, by omega⟩
          · unfold RI cutI; simp; omega
          · unfold nb cutI; simp [n0, n1, n2, n3]
        · rw [if_neg e3] at hp; cases hp
end Go.Proofs.YtboohandlmnjkaaGreatDoor

/- Mending, in plain: each step, and how it ends. Conditions: none. -/
namespace Go.Proofs.YtboohandlmnjkaaGreatDoor
open Go.Sy
set_option maxRecDepth 100000
set_option linter.all false
theorem inoOfR_S {x : Ino} (h : RI x) : inoOfR (inoS x) = x := by
  have hb := RI_byte h
  have e : ∀ n ∈ inoL x, ((by8 n).toNat : Int) = n := fun n hn => by8_ok (hb n hn)
  have e0 := e x.k (by simp [inoL])
  have e1 := e x.z (by simp [inoL])
  have e2 := e x.b0 (by simp [inoL])
  have e3 := e x.b1 (by simp [inoL])
  have e4 := e x.b2 (by simp [inoL])
  have e5 := e x.b3 (by simp [inoL])
  show Ino.mk _ _ _ _ _ _ = x
  cases x
  simp only [Ino.mk.injEq]
  exact ⟨e0, e1, e2, e3, e4, e5⟩
theorem inoOf_S {x : Ino} (h : RI x) : inoB (inoS x) ∧ inoOf (inoS x) = x := by
  have e := inoOfR_S h
  have hB : inoB (inoS x) := ⟨by rw [e]; exact h, by rw [e]⟩
  refine ⟨hB, ?_⟩
  unfold inoOf
  rw [if_pos hB, e]
theorem inoS_len (x : Ino) : (inoS x).length = 32 := rfl
theorem posB_some {x : Ino} {b : Int} (h : b ∈ blks x) : ∃ i, posB x b = some i := by
  unfold posB
  by_cases e0 : x.b0 = b
  · exact ⟨0, if_pos e0⟩
  rw [if_neg e0]
  by_cases e1 : x.b1 = b
  · exact ⟨1, if_pos e1⟩
  rw [if_neg e1]
  by_cases e2 : x.b2 = b
  · exact ⟨2, if_pos e2⟩
  rw [if_neg e2]
  by_cases e3 : x.b3 = b
  · exact ⟨3, if_pos e3⟩
  simp only [blks, List.mem_cons, List.not_mem_nil, or_false] at h
  omega
theorem cutK_is {f : Int → List UInt8} {b : Int} {k : Nat} (h : ∃ n, n < k ∧ b ∈ blks (inoAt f (n : Nat)) ∧ takP f (n : Nat)) : ∃ n i, n < k ∧ posB (inoAt f (n : Nat)) b = some i ∧ cutK f b k = cutW1 n (cutI (inoAt f (n : Nat)) i) := by
  induction k with
  | zero => obtain ⟨n, h, _⟩ := h; omega
  | succ k ih =>
    obtain ⟨n, hn, hb, ht⟩ := h
    by_cases hg : b ∈ blks (inoAt f (k : Nat)) ∧ takP f (k : Nat)
    · obtain ⟨i, hi⟩ := posB_some hg.1
      refine ⟨k, i, by omega, hi, ?_⟩
      rw [cutK_succ, hi, decide_eq_true hg.2]; rfl
    · have hnk : n ≠ k := fun e => hg (e ▸ ⟨hb, ht⟩)
      obtain ⟨q, i, h1, h2, h3⟩ := ih ⟨n, by omega, hb, ht⟩
      refine ⟨q, i, by omega, h2, ?_⟩
      rw [cutK_succ]
      cases hp : posB (inoAt f (k : Nat)) b with
      | none => exact h3
      | some j =>
        by_cases htk : takP f (k : Nat)
        · by_cases hbk : b ∈ blks (inoAt f (k : Nat))
          · exact absurd ⟨hbk, htk⟩ hg
          · exfalso
            apply hbk
            unfold posB at hp
            simp only [blks, List.mem_cons, List.not_mem_nil, or_false]
            by_cases e0 : (inoAt f (k : Nat)).b0 = b
            · exact .inl e0.symm
            rw [if_neg e0] at hp
            by_cases e1 : (inoAt f (k : Nat)).b1 = b
            · exact .inr (.inl e1.symm)
            rw [if_neg e1] at hp
            by_cases e2 : (inoAt f (k : Nat)).b2 = b
            · exact .inr (.inr (.inl e2.symm))
            rw [if_neg e2] at hp
            by_cases e3 : (inoAt f (k : Nat)).b3 = b
            · exact .inr (.inr (.inr e3.symm))
            rw [if_neg e3] at hp; cases hp
        · rw [decide_eq_false htk]; exact h3
theorem own_some {d : Option Dk} {b : Nat} (h : 1 < dOwn d b) : ∃ n, n < 16 ∧ ((b : Nat) : Int) ∈ blks (inoAt (rdS d) (n : Nat)) ∧ takP (rdS d) (n : Nat) := by
  unfold dOwn ownK at h
  cases hl : (List.range 16).filter fun i => decide (((fun i => (xI (rdS d) 16).getD i ino0) i).k = 1 ∧ ((b : Nat) : Int) ∈ blks ((fun i => (xI (rdS d) 16).getD i ino0) i)) && (fun i => decide (takP (rdS d) ((i : Nat) : Int))) i with
  | nil => rw [hl] at h; simp at h
  | cons n t =>
    have hm : n ∈ n :: t := List.mem_cons_self
    rw [← hl] at hm
    obtain ⟨h1, h2⟩ := List.mem_filter.1 hm
    have h1 := List.mem_range.1 h1
    simp only [Bool.and_eq_true, decide_eq_true_eq] at h2
    have e1 : (xI (rdS d) 16).getD n ino0 = inoAt (rdS d) (n : Nat) := by
      have h3 : n < (xI (rdS d) 16).length := by rw [xI_len]; exact h1
      rw [List.getD_eq_getElem?_getD, List.getElem?_eq_getElem h3, Option.getD_some, xI_get, if_pos h1]
    rw [e1] at h2
    exact ⟨n, h1, h2.1.2, h2.2⟩
/-- Mounted: its sectors, the first ones as they must be. -/
structure Mnt (d : Dk) : Prop where
  s : ∀ s ∈ d.safe, s.length = 32
  w : ∀ w ∈ d.wait, w.s.length = 32
  n : d.safe.length = 65
  f0 : rdS (some d) 0 = superS
  f1 : inoB (rdS (some d) 1)
  f2 : (inoOf (rdS (some d) 1)).k = 2
theorem step_mnt {d : Dk} (h : Mnt d) {w : Wr} (hw : nextW (some d) = some w) : Mnt (wrD d w) ∧ mu (rdS (some (wrD d w))) < mu (rdS (some d)) ∧ 1 ≤ w.a ∧ w.a < 65 ∧ w.s.length = 32 := by
  have key : ∀ {a : Int} {s : List UInt8}, w.a = a → w.s = s → 1 ≤ a → a < 65 → s.length = 32 → (a = 1 → inoB s ∧ (inoOf s).k = 2) → (∀ f', (∀ n, f' n = if n = a then s else rdS (some d) n) → mu f' < mu (rdS (some d))) → Mnt (wrD d w) ∧ mu (rdS (some (wrD d w))) < mu (rdS (some d)) ∧ 1 ≤ w.a ∧ w.a < 65 ∧ w.s.length = 32 := by
    intro a s ha hs h1 h2 h3 h4 h5
    subst ha hs
    have hr := fun n => rdS_wr d w n ⟨by omega, by have := h.n; omega⟩
    refine ⟨⟨h.s, fun x hx => ?_, h.n, ?_, ?_, ?_⟩, h5 _ hr, h1, h2, h3⟩
    · rcases List.mem_append.1 hx with hx | hx
      · exact h.w x hx
      · rw [List.mem_singleton.1 hx]; exact h3
    · rw [hr, if_neg (by omega)]; exact h.f0
    · rw [hr]
      by_cases e : (1 : Int) = w.a
      · rw [if_pos e]; exact (h4 e.symm).1
      · rw [if_neg e]; exact h.f1
    · rw [hr]
      by_cases e : (1 : Int) = w.a
      · rw [if_pos e]; exact (h4 e.symm).2
      · rw [if_neg e]; exact h.f2
  unfold nextW at hw
  cases hp : probsD (some d) with
  | nil => rw [hp] at hw; cases hw
  | cons p t =>
    rw [hp] at hw
    have hw := Option.some.inj hw
    rcases probs_head hp with ⟨kind, k, k1, k2, k3, rfl, hP⟩ | ⟨b, b1, b2, rfl, hb⟩
    · rw [if_neg (by show ¬ ((kind : Nat) : Int) = 6; omega)] at hw
      have hw : entW (rdS (some d)) k = w := by rw [← hw]; rfl
      have hz := prb_nz k3 ⟨k1, k2⟩ hP
      refine key (a := 17 + (k : Nat)) (s := zeroS) (by rw [← hw]; rfl) (by rw [← hw]; rfl) (by omega) (by omega) rfl (fun e => by omega) fun f' hf => mu_ent k3 hz hf
    · rw [if_pos rfl] at hw
      obtain ⟨n, i, hn, hi, e⟩ := cutK_is (f := rdS (some d)) (b := ((b : Nat) : Int)) (own_some hb)
      have hRI := inoAt_RI (rdS (some d)) (n : Nat)
      obtain ⟨c1, c2, c3, c4⟩ := cutI_RI hRI (by omega) hi
      have hw : cutW1 n (cutI (inoAt (rdS (some d)) (n : Nat)) i) = w := e.symm.trans hw
      have hs : w.s = inoS (cutI (inoAt (rdS (some d)) (n : Nat)) i) := by rw [← hw]; exact if_pos c1
      obtain ⟨o1, o2⟩ := inoOf_S c1
      have hn0 : n ≠ 0 := by
        rintro rfl
        have e0 : inoAt (rdS (some d)) ((0 : Nat) : Int) = inoOf (rdS (some d) 1) := by unfold inoAt; rw [if_pos (by omega)]; rfl
        rw [e0, h.f2] at c3; cases c3
      exact key (a := 1 + (n : Nat)) (by rw [← hw]; rfl) hs (by omega) (by omega) (inoS_len _) (fun e => by omega) fun f' hf => mu_ino hn o2 c2 hf
def stepD (d : Dk) : Dk := match nextW (some d) with
  | none => d
  | some w => wrD d w
def itD (d : Dk) : Nat → Dk
  | 0 => d
  | i + 1 => stepD (itD d i)
theorem it_mnt {d : Dk} (h : Mnt d) : ∀ i, Mnt (itD d i)
  | 0 => h
  | i + 1 => by
    show Mnt (stepD (itD d i))
    unfold stepD
    cases hw : nextW (some (itD d i)) with
    | none => exact it_mnt h i
    | some w => exact (step_mnt (it_mnt h i) hw).1
/-- It ends. -/
theorem it_end {d : Dk} (h : Mnt d) : ∃ i, i ≤ mu (rdS (some d)) ∧ nextW (some (itD d i)) = none ∧ ∀ j, j < i → nextW (some (itD d j)) ≠ none := by
  have key : ∀ n i, mu (rdS (some (itD d i))) + i ≤ mu (rdS (some d)) → mu (rdS (some (itD d i))) ≤ n → (∀ j, j < i → nextW (some (itD d j)) ≠ none) → ∃ i, i ≤ mu (rdS (some d)) ∧ nextW (some (itD d i)) = none ∧ ∀ j, j < i → nextW (some (itD d j)) ≠ none := by
    intro n
    induction n with
    | zero =>
      intro i h1 h2 h3
      cases hw : nextW (some (itD d i)) with
      | none => exact ⟨i, by omega, hw, h3⟩
      | some w => have := (step_mnt (it_mnt h i) hw).2.1; omega
    | succ n ih =>
      intro i h1 h2 h3
      cases hw : nextW (some (itD d i)) with
      | none => exact ⟨i, by omega, hw, h3⟩
      | some w =>
        have hs := (step_mnt (it_mnt h i) hw).2.1
        have e : itD d (i + 1) = wrD (itD d i) w := by show stepD (itD d i) = _; unfold stepD; rw [hw]
        rw [← e] at hs
        refine ih (i + 1) (by omega) (by omega) fun j hj => ?_
        by_cases hji : j = i
        · rw [hji, hw]; exact fun q => by cases q
        · exact h3 j (by omega)
  exact key _ 0 (by show mu (rdS (some d)) + 0 ≤ _; omega) (Nat.le_refl _) (fun j hj => by omega)
theorem sumK_le {g : Nat → Nat} {c : Nat} (h : ∀ i, g i ≤ c) : ∀ k, sumK g k ≤ c * k
  | 0 => Nat.le_refl _
  | k + 1 => by
    have := sumK_le h k
    have := h k
    simp only [sumK]
    rw [Nat.mul_succ]; omega
theorem nb_le (x : Ino) : nb x ≤ 4 := by
  have one : ∀ z : Int, (if z = 0 then 0 else 1 : Nat) ≤ 1 := fun z => by split <;> omega
  have h0 := one x.b0
  have h1 := one x.b1
  have h2 := one x.b2
  have h3 := one x.b3
  unfold nb; omega
theorem mu_le (f : Int → List UInt8) : mu f ≤ 88 := by
  unfold mu
  have h1 := sumK_le (g := fun k => if f (17 + ((k : Nat) : Int)) = zeroS then 0 else 1) (c := 1) (fun i => by show (if _ then _ else _) ≤ 1; split <;> omega) 24
  have h2 := sumK_le (g := fun n => nb (inoAt f ((n : Nat) : Int))) (c := 4) (fun i => nb_le _) 16
  omega
end Go.Proofs.YtboohandlmnjkaaGreatDoor

/- A disk as a variable: a write. Conditions: none. -/
namespace Go.Proofs.YtboohandlmnjkaaGreatDoor
open Go.Sy
set_option maxRecDepth 100000
set_option linter.all false
/-- A disk in memory. -/
def dObs (d : Dk) : List (Nat × Ob) := [(0, .cells 6 [.d (.ot (.map none)), .d (.it .i64 d.nx), .d (.fs 32 (d.safe.map encS)), .ts 36 (d.wait.map encW) 1, .ts 38 d.log 2, .d (.it .i64 d.ep)]), (1, .tail 45 true), (2, .tail 63 true)]
theorem dk_eq {a b c e s : List (List D)} {x y p : Int} (h3 : x = y) (h1 : a = b) (h2 : c = e) : Ob.cells 6 [.d (.ot (.map none)), .d (.it .i64 x), .d (.fs 32 s), .ts 36 a 1, .ts 38 c 2, .d (.it .i64 p)] = Ob.cells 6 [.d (.ot (.map none)), .d (.it .i64 y), .d (.fs 32 s), .ts 36 b 1, .ts 38 e 2, .d (.it .i64 p)] := by rw [h1, h2, h3]
set_option maxHeartbeats 8000000 in
theorem writeH_ok (d : Dk) (a : Int) (s : List UInt8) (hs : s.length = 32) (k i : Int) (hn : 0 ≤ d.nx ∧ d.nx ≤ 1000000) (hw : d.wait.length ≤ 1000000) (hlg : d.log.length ≤ 1000000) (ha : 0 ≤ a ∧ a < d.safe.length) :
    FnH Tryz.prog 23 [.ptr 0 0, .d (.it .i64 a), .dg 32 (encS s), .dg 2 [.it .i64 k, .it .i64 i]] (dObs d) 3 [0] (.d (.it .i64 0)) (dObs (wrD d ⟨a, s, k, i, 0⟩)) 3 := by
  obtain ⟨g, rfl⟩ := is32 hs
  have hl1 : (d.safe.map encS).length = d.safe.length := List.length_map ..
  have hl2 : (d.wait.map encW).length = d.wait.length := List.length_map ..
  have hne : (d.safe.map encS).isEmpty = false := by
    cases h : d.safe with
    | nil => rw [h] at ha; simp at ha; omega
    | cons => rfl
  refine FnH.intro ti_ok Tryz.func23 rfl Tryz.ntmps23 Tryz.call23 rfl rfl rfl (Nat.le_refl _) rfl rfl rfl rfl rfl (fun T => ?_)
  (repeat' ((conv=>whnf);first|with_reducible refine gA ?_|with_reducible refine nilBad ?_ | with_reducible refine AtA.mk' ?_ | ((with_reducible refine callE_id ?_); refine CallE.inl ?_) | ((with_reducible refine callI_id ?_); first | with_reducible refine CallI.inl ti_ok i24 rfl ?_ | with_reducible refine CallI.inl ti_ok i49 rfl ?_ | with_reducible refine CallI.inl ti_ok i48 rfl ?_ | with_reducible refine CallI.inl ti_ok i50 rfl ?_) | ((with_reducible refine drawS_id ?_); first | refine draw_newB ti_ok mixed (by decide +kernel) ?_ | refine draw_hoist ti_ok mixed 0 (by decide +kernel) ?_)|(with_reducible first|refine gB ?_|refine gZ (fun x hx hu=>?_)|refine gY (fun x hx=>?_)|refine gE ?_|refine Both.mk ?_ ?_|refine gS (fun h=>?_) (fun h=>?_)|refine Spl.nt ?_|refine Spl.mk (fun h=>?_) (fun h=>?_))))
  all_goals first | (exfalso; omega) | skip
  refine finH_now rfl (And.intro (dk_eq rfl ?_ rfl) (And.intro rfl (And.intro rfl trivial))) (And.intro rfl (And.intro rfl trivial))
  show _ = (d.wait ++ [_]).map encW
  rw [List.map_append]; rfl
end Go.Proofs.YtboohandlmnjkaaGreatDoor

/- A disk as a variable, out of an image and writes. Conditions: none. -/
namespace Go.Proofs.YtboohandlmnjkaaGreatDoor
open Go.Sy
set_option maxRecDepth 100000
set_option linter.all false
def dObsN (a b c : Nat) (d : Dk) : List (Nat × Ob) := [(a, .cells 6 [.d (.ot (.map none)), .d (.it .i64 d.nx), .d (.fs 32 (d.safe.map encS)), .ts 36 (d.wait.map encW) b, .ts 38 d.log c, .d (.it .i64 d.ep)]), (b, .tail 45 true), (c, .tail 63 true)]
def dskD (m : List (List UInt8)) (ws : List Wr) : Dk := ⟨ws.length, m, wts m.length ws, (wts m.length ws).map encEv, 0⟩
def dA2 (m : List (List UInt8)) (ws : List Wr) (i : Nat) : S := ⟨[(0, .d (encM m)), (1, .d (.fs 36 (ws.map encW))), (5, .ptr 8 0), (7, .d (.it .i64 (i : Nat)))],
  [(8, .cells 6 [.d (.ot (.map none)), .d (.it .i64 (i : Nat)), .d (.fs 32 (m.map encS)), .ts 36 ((wtsI m ws i).map encW) 9, .ts 38 ((wtsI m ws i).map encEv) 10, .d (.it .i64 0)]), (9, .tail 45 true), (10, .tail 63 true), (0, .frame 1 [])], 11⟩
theorem dkN_eq {q r : Nat} {a b c e s : List (List D)} {x y z : Int} (h3 : x = y) (h1 : a = b) (h2 : c = e) : Ob.cells 6 [.d (.ot (.map none)), .d (.it .i64 x), .d (.fs 32 s), .ts 36 a q, .ts 38 c r, .d (.it .i64 z)] = Ob.cells 6 [.d (.ot (.map none)), .d (.it .i64 y), .d (.fs 32 s), .ts 36 b q, .ts 38 e r, .d (.it .i64 z)] := by rw [h1, h2, h3]
set_option maxHeartbeats 8000000 in
theorem diskH_ok (m : List (List UInt8)) (hm : ImOK m) (ws : List Wr) (hw : WsOK ws) (hwl : ws.length ≤ 1000) (h : 1 ≤ m.length ∧ m.length ≤ 65) : FnH Tryz.prog 6 [.d (encM m), .d (.fs 36 (ws.map encW))] [] 0 [] (.ptr 8 0) (dObsN 8 9 10 (dskD m ws)) 11 := by
  have hml' : (m.map encS).length = m.length := List.length_map ..
  have hwl' : (ws.map encW).length = ws.length := List.length_map ..
  have hne : (m.map encS).isEmpty = false := by
    cases m with
    | nil => simp at h
    | cons => rfl
  refine FnH.intro ti_ok Tryz.func6 rfl Tryz.ntmps6 Tryz.call6 rfl rfl rfl (Nat.zero_le _) rfl rfl rfl rfl rfl (fun T => ?_)
  (repeat' ((conv=>whnf);first|with_reducible refine gA ?_|((with_reducible refine callE_id ?_); refine CallE.inl ?_) | with_reducible refine CallI.inl ti_ok i22 rfl ?_ | with_reducible refine CallI.inl ti_ok i46 rfl ?_ | with_reducible refine CallI.inl ti_ok i47 rfl ?_ | with_reducible refine Spl.no hne ?_|(with_reducible first|refine gB ?_|refine gZ (fun x hx hu=>?_)|refine gY (fun x hx=>?_)|refine gE ?_|refine Both.mk ?_ ?_|refine gS (fun h=>?_) (fun h=>?_)|refine Spl.nt ?_|refine Spl.mk (fun h=>?_) (fun h=>?_))))
  refine loop_ruleW ti_ok (fun i : Nat => i ≤ ws.length) (dA2 m ws) (fun i => ws.length - i) 0 (Nat.zero_le _) ?_ ?_
  · refine Wk.trans (Wk.nlTs 8 3 6 36 45 (by with_unfolding_all exact rfl) (by with_unfolding_all exact rfl)) ?_
    refine Wk.trans (Wk.nlTs 8 4 6 38 63 (by with_unfolding_all exact rfl) (by with_unfolding_all exact rfl)) ?_
    exact Wk.vwL (And.intro (Vw.eq rfl) (And.intro (Vw.eq rfl) (And.intro (Vw.eq rfl) (And.intro (Vw.eq rfl) trivial))))
        (And.intro (VwO.cells _ _ _ (.cons (Vw.eq rfl) rfl (.cons (Vw.eq rfl) rfl (.cons (Vw.ts' rfl) rfl (.cons (Vw.eq rfl) rfl (.cons (Vw.eq rfl) rfl (.cons (Vw.eq rfl) rfl .nil))))))) (And.intro (VwO.same _) (And.intro (VwO.same _) (And.intro (VwO.same _) trivial)))) rfl
  intro i hi
  rcases Nat.lt_or_ge i ws.length with hil | hil
  · obtain ⟨x, hx⟩ := lt_get hil
    have hxs := hw x (List.mem_of_getElem? hx)
    have hpos : m.length ≠ 0 := by omega
    have hwi : ((wtsI m ws i).map encW).length ≤ 1000 := by
      rw [List.length_map]
      exact Nat.le_trans (wtsI_len m ws i) hwl
    have hwe : ((wtsI m ws i).map encEv).length ≤ 1000 := by
      rw [List.length_map]
      exact Nat.le_trans (wtsI_len m ws i) hwl
    have hwj : (wtsI m ws i).length ≤ 1000 := Nat.le_trans (wtsI_len m ws i) hwl
    have hstep := wtsI_step m hx
    obtain ⟨xa, xs, xk, xi, xe⟩ := x
    obtain ⟨g, rfl⟩ := is32 hxs
    (repeat' ((conv=>whnf);first|with_reducible refine gA ?_|with_reducible refine at_hm hx ?_ | with_reducible refine nilBad ?_ | with_reducible refine AtA.mk' ?_ | ((with_reducible refine callE_id ?_); refine CallE.inl ?_) | ((with_reducible refine callI_id ?_); first | with_reducible refine CallI.inl ti_ok i23 rfl ?_ | with_reducible refine CallI.inl ti_ok i24 rfl ?_ | with_reducible refine CallI.inl ti_ok i49 rfl ?_ | with_reducible refine CallI.inl ti_ok i48 rfl ?_ | with_reducible refine CallI.inl ti_ok i50 rfl ?_) | ((with_reducible refine drawS_id ?_); first | refine draw_newB ti_ok mixed (by decide +kernel) ?_ | refine draw_hoist ti_ok mixed 0 (by decide +kernel) ?_)|(with_reducible first|refine gB ?_|refine gZ (fun x hx hu=>?_)|refine gY (fun x hx=>?_)|refine gE ?_|refine Both.mk ?_ ?_|refine gS (fun h=>?_) (fun h=>?_)|refine Spl.nt ?_|refine Spl.mk (fun h=>?_) (fun h=>?_))))
    all_goals refine ⟨i + 1, by omega, by dsimp only; omega, Wk.vwL (And.intro (Vw.eq rfl) (And.intro (Vw.eq rfl) (And.intro (Vw.eq rfl) (And.intro (Vw.eq (it_eq (by omega))) trivial)))) (And.intro (VwO.cells _ _ _ (.cons (Vw.eq rfl) rfl (.cons (Vw.eq (it_eq (by omega))) rfl (.cons (Vw.eq rfl) rfl (.cons (Vw.eq (ts_eq ?_)) rfl (.cons (Vw.eq (ts_eq ?_)) rfl (.cons (Vw.eq rfl) rfl .nil))))))) (And.intro (VwO.same _) (And.intro (VwO.same _) (And.intro (VwO.same _) trivial)))) rfl⟩
    all_goals first
      | (rw [hstep, if_pos (by dsimp only at *; omega), List.map_append]; rfl)
      | (rw [hstep, if_neg (by dsimp only at *; omega)])
  · have hli : i = ws.length := by omega
    have hlast : wtsI m ws i = wts m.length ws := by unfold wtsI; rw [hli, List.take_length]
    (repeat' ((conv=>whnf);first|with_reducible refine gA ?_|(with_reducible first|refine gB ?_|refine gZ (fun x hx hu=>?_)|refine gY (fun x hx=>?_)|refine gE ?_|refine Both.mk ?_ ?_|refine gS (fun h=>?_) (fun h=>?_)|refine Spl.nt ?_|refine Spl.mk (fun h=>?_) (fun h=>?_))))
    refine finH_now rfl (And.intro (dkN_eq (by rw [hli]; rfl) (by rw [hlast]; rfl) (by rw [hlast]; rfl)) (And.intro rfl (And.intro rfl trivial))) (And.intro rfl trivial)
end Go.Proofs.YtboohandlmnjkaaGreatDoor

/- What is written for the first problem. Conditions: none. -/
namespace Go.Proofs.YtboohandlmnjkaaGreatDoor
open Go.Sy
set_option maxRecDepth 100000
set_option linter.all false
set_option maxHeartbeats 4000000 in
theorem mentry_ok (d : Option Dk) (hd : DkOK d) (k : Nat) (hk : k < 24) : FnC Tryz.prog 36 [.d (encD d), .d (.it .i64 (k : Nat))] (.dg 36 (encW (entW (rdS d) k))) := by
  have he := entry_ok d hd (k : Nat)
  rw [encE] at he
  refine FnC.intro ti_ok Tryz.func36 rfl Tryz.ntmps36 Tryz.call36 rfl (Nat.le_of_ble_eq_true rfl) rfl ?_
  (repeat' ((conv=>whnf);first|with_reducible refine gA ?_|((with_reducible refine callE_id ?_); (refine CallE.con ⟨_, he, ?_⟩))|(with_reducible first|refine gB ?_|refine gZ (fun x hx hu=>?_)|refine gY (fun x hx=>?_)|refine gE ?_|refine Both.mk ?_ ?_|refine gS (fun h=>?_) (fun h=>?_)|refine Spl.nt ?_|refine Spl.mk (fun h=>?_) (fun h=>?_))))
  rfl
def ctS (d : Option Dk) (b : Int) (k : Nat) (w : Wr) : S := ⟨[(0, .d (encD d)), (1, .d (.it .i64 b)), (4, .ptr 0 0), (5, .ptr 2 0), (9, .d (.it .i64 (k : Nat)))], [(0, .cells 36 ((encW w0).map .d)), (2, .cells 36 ((encW w).map .d))], 4⟩
theorem ctS_ok (d : Option Dk) (b : Int) (k : Nat) (w : Wr) : (ctS d b k w).ok = true := by
  unfold ctS
  simp only [S.ok, List.all_cons, List.all_nil, Ob.lt, all_d]; rfl
theorem cutV {x : Ino} (h : RI x) : inoR x = .tup [.dg 32 (encS (inoS x)), .d (.bl true)] := by
  unfold inoR
  rw [if_pos h, encL_S (RI_byte h)]; rfl
theorem cutW1_s {n : Nat} {x : Ino} (h : RI x) : encW (cutW1 n x) = [.it .i64 (1 + (n : Nat))] ++ encS (inoS x) ++ [.it .i64 2, .it .i64 (n : Nat), .it .i64 0] := by
  unfold cutW1 encW
  dsimp only
  rw [if_pos h]
theorem cutS_n {o : Option Nat} {t : Bool} {n : Nat} {x : Ino} {r : Wr} (h : t = false ∨ o = none) : cutS o t n x r = r := by
  rcases h with rfl | rfl
  · cases o <;> rfl
  · rfl
theorem st36 {a l : List AV} (h : a.length ≤ 36) : l = a.take 0 ++ l ++ a.drop (0 + 36) := by rw [List.drop_eq_nil_of_le (by omega)]; simp
theorem posB_none {x : Ino} {b : Int} (h0 : ¬ x.b0 = b) (h1 : ¬ x.b1 = b) (h2 : ¬ x.b2 = b) (h3 : ¬ x.b3 = b) : posB x b = none := by
  unfold posB
  rw [if_neg h0, if_neg h1, if_neg h2, if_neg h3]
theorem cutW1_l (n : Nat) (x : Ino) : (cutW1 n x).s.length = 32 := by
  show (if RI x then inoS x else zeroS).length = 32
  split <;> rfl
theorem cutK_s (f : Int → List UInt8) (b : Int) : ∀ k, (cutK f b k).s.length = 32
  | 0 => rfl
  | k + 1 => by
    rw [cutK_succ]
    cases posB (inoAt f (k : Nat)) b with
    | none => exact cutK_s f b k
    | some i =>
      cases decide (takP f (k : Nat)) with
      | false => exact cutK_s f b k
      | true => exact cutW1_l _ _
theorem ldW36 {w : Wr} (h : w.s.length = 32) {ty : Ty} (ha : ty.kd.agg = true) (hz : ty.size = 36) : ldA ty 0 ((encW w).map AV.d) = .dg 36 (encW w) := by
  unfold ldA
  rw [ha, cond_true, hz, List.drop_zero, List.take_of_length_le (by rw [List.length_map, encW_len h]; exact Nat.le_refl _)]
  unfold mkAg
  rw [allD_map]
theorem ldW36b {w : Wr} (h : w.s.length = 32) {a : List AV} (hx : a = (encW w).map AV.d) {ty : Ty} (ha : ty.kd.agg = true) (hz : ty.size = 36) : ldA ty 0 a = .dg 36 (encW w) := by rw [hx]; exact ldW36 h ha hz
theorem ctW {f : Int → List UInt8} {b : Int} {k : Nat} {x : Ino} {i : Nat} {r : Wr} (hR : RI (cutI x i)) (hp : posB x b = some i) (h : cutK f b (k + 1) = cutS (posB x b) true k x r) : (encW (cutK f b (k + 1))).map AV.d = [AV.d (.it .i64 (1 + (k : Nat)))] ++ (encS (inoS (cutI x i))).map AV.d ++ [.d (.it .i64 2), .d (.it .i64 (k : Nat)), .d (.it .i64 0)] := by
  rw [h, hp]
  show (encW (cutW1 k (cutI x i))).map AV.d = _
  rw [cutW1_s hR, List.map_append, List.map_append]; rfl
theorem ctI {x : Ino} (h : RI x) {b : Int} (hb : 1 ≤ b) {i : Nat} (hp : posB x b = some i) : FnC Tryz.prog 65 [.dg 6 (encI (cutI x i))] (.tup [.dg 32 (encS (inoS (cutI x i))), .d (.bl true)]) ∧ RI (cutI x i) := by
  have hR := (cutI_RI h hb hp).1
  have := ino_ok (cutI x i)
  rw [cutV hR] at this
  exact ⟨this, hR⟩
set_option maxHeartbeats 16000000 in
theorem cut38_ok (d : Option Dk) (hd : DkOK d) (b : Int) (hb : 1 ≤ b ∧ b ≤ 24) : FnC Tryz.prog 35 [.d (encD d), .d (.it .i64 b)] (.dg 36 (encW (cutK (rdS d) b 16))) := by
  have hi := fun n => inode_ok d hd n
  have ht := fun n => taken_ok d hd n
  refine FnC.intro ti_ok Tryz.func35 rfl Tryz.ntmps35 Tryz.call35 rfl (Nat.le_of_ble_eq_true rfl) rfl ?_
  (repeat' ((conv=>whnf);first|with_reducible refine gA ?_|(with_reducible first|refine gB ?_|refine gZ (fun x hx hu=>?_)|refine gY (fun x hx=>?_)|refine gE ?_|refine Both.mk ?_ ?_|refine gS (fun h=>?_) (fun h=>?_)|refine Spl.nt ?_|refine Spl.mk (fun h=>?_) (fun h=>?_))))
  conv => whnf
  refine loop_rule ti_ok (fun k : Nat => k ≤ 16) (fun k => ctS d b k (cutK (rdS d) b k)) (fun k => 16 - k) 0 (Nat.zero_le _) ⟨And.intro rfl (And.intro rfl (And.intro rfl (And.intro rfl (And.intro rfl trivial)))), And.intro rfl (And.intro rfl trivial), ctS_ok ..⟩ ?_
  intro k hk
  by_cases hk16 : k < 16
  · have hik := hi (k : Nat)
    have htk := ht (k : Nat)
    have hRI := inoAt_RI (rdS d) (k : Nat)
    have hsc := cutK_succ (rdS d) b k
    have hl0 : ((encW (cutK (rdS d) b k)).map AV.d).length ≤ 36 := by rw [List.length_map, encW_len (cutK_s (rdS d) b k)]; exact Nat.le_refl _
    generalize inoAt (rdS d) (k : Nat) = x at hik hRI hsc
    have hx6 : encI x = [.it .i64 x.k, .it .i64 x.z, .it .i64 x.b0, .it .i64 x.b1, .it .i64 x.b2, .it .i64 x.b3] := rfl
    rw [hx6] at hik
    have c0 := fun (h : x.b0 = b) => ctI hRI hb.1 (i := 0) (show posB x b = some 0 from if_pos h)
    have c1 := fun (h0 : ¬ x.b0 = b) (h : x.b1 = b) => ctI hRI hb.1 (i := 1) (show posB x b = some 1 from (if_neg h0).trans (if_pos h))
    have c2 := fun (h0 : ¬ x.b0 = b) (h1 : ¬ x.b1 = b) (h : x.b2 = b) => ctI hRI hb.1 (i := 2) (show posB x b = some 2 from (if_neg h0).trans ((if_neg h1).trans (if_pos h)))
    have c3 := fun (h0 : ¬ x.b0 = b) (h1 : ¬ x.b1 = b) (h2 : ¬ x.b2 = b) (h : x.b3 = b) => ctI hRI hb.1 (i := 3) (show posB x b = some 3 from (if_neg h0).trans ((if_neg h1).trans ((if_neg h2).trans (if_pos h))))
    by_cases hT : takP (rdS d) (k : Nat)
    all_goals first | rw [decide_eq_true hT] at htk hsc | rw [decide_eq_false hT] at htk hsc
    all_goals (repeat' ((conv=>whnf);first|with_reducible refine gA ?_|((with_reducible refine callE_id ?_); first | (refine CallE.con ⟨_, hik, ?_⟩) | (refine CallE.con ⟨_, htk, ?_⟩) | (refine CallE.con ⟨_, (c0 (by omega)).1, ?_⟩) | (refine CallE.con ⟨_, (c1 (by omega) (by omega)).1, ?_⟩) | (refine CallE.con ⟨_, (c2 (by omega) (by omega) (by omega)).1, ?_⟩) | (refine CallE.con ⟨_, (c3 (by omega) (by omega) (by omega) (by omega)).1, ?_⟩) | refine CallE.inl ?_) | ((with_reducible refine callI_id ?_); with_reducible refine CallI.inl ti_ok i63 rfl ?_) | with_reducible refine LoopS.unroll ti_ok 5 ?_ | ((with_reducible refine letC_id ?_); refine LetC.mk _ (st36 hl0) ?_) | ((with_reducible refine opX_id ?_); refine OpX.clearM ti_ok rfl rfl rfl (by with_unfolding_all exact rfl) rfl (by with_unfolding_all exact rfl) rfl rfl (by with_unfolding_all exact rfl) (by with_unfolding_all exact rfl) (by decide) (fun _ => by decide) ?_)|(with_reducible first|refine gB ?_|refine gZ (fun x hx hu=>?_)|refine gY (fun x hx=>?_)|refine gE ?_|refine Both.mk ?_ ?_|refine gS (fun h=>?_) (fun h=>?_)|refine Spl.nt ?_|refine Spl.mk (fun h=>?_) (fun h=>?_))))
    all_goals first
      | (refine again (k + 1) hk16 (by first | omega | (dsimp only; omega)) (And.intro rfl (And.intro rfl (And.intro rfl (And.intro rfl (And.intro (it_eq (by omega)) trivial))))) (And.intro rfl (And.intro (cells_eq rfl (by rw [hsc, cutS_n (by first | exact .inl rfl | exact .inr (posB_none (by omega) (by omega) (by omega) (by omega)))])) trivial)) (ctS_ok ..); done)
      | (refine again (k + 1) hk16 (by first | omega | (dsimp only; omega)) (And.intro rfl (And.intro rfl (And.intro rfl (And.intro rfl (And.intro (it_eq (by omega)) trivial))))) (And.intro rfl (And.intro (cells_eq rfl ((by with_unfolding_all exact rfl : _ = [AV.d (.it .i64 (1 + (k : Nat)))] ++ (encS (inoS (cutI x 0))).map AV.d ++ [.d (.it .i64 2), .d (.it .i64 (k : Nat)), .d (.it .i64 0)]).trans (ctW (c0 (by omega)).2 (if_pos (by omega)) hsc).symm)) trivial)) (ctS_ok ..); done)
      | (refine again (k + 1) hk16 (by first | omega | (dsimp only; omega)) (And.intro rfl (And.intro rfl (And.intro rfl (And.intro rfl (And.intro (it_eq (by omega)) trivial))))) (And.intro rfl (And.intro (cells_eq rfl ((by with_unfolding_all exact rfl : _ = [AV.d (.it .i64 (1 + (k : Nat)))] ++ (encS (inoS (cutI x 1))).map AV.d ++ [.d (.it .i64 2), .d (.it .i64 (k : Nat)), .d (.it .i64 0)]).trans (ctW (c1 (by omega) (by omega)).2 ((if_neg (by omega)).trans (if_pos (by omega))) hsc).symm)) trivial)) (ctS_ok ..); done)
      | (refine again (k + 1) hk16 (by first | omega | (dsimp only; omega)) (And.intro rfl (And.intro rfl (And.intro rfl (And.intro rfl (And.intro (it_eq (by omega)) trivial))))) (And.intro rfl (And.intro (cells_eq rfl ((by with_unfolding_all exact rfl : _ = [AV.d (.it .i64 (1 + (k : Nat)))] ++ (encS (inoS (cutI x 2))).map AV.d ++ [.d (.it .i64 2), .d (.it .i64 (k : Nat)), .d (.it .i64 0)]).trans (ctW (c2 (by omega) (by omega) (by omega)).2 ((if_neg (by omega)).trans ((if_neg (by omega)).trans (if_pos (by omega)))) hsc).symm)) trivial)) (ctS_ok ..); done)
      | (refine again (k + 1) hk16 (by first | omega | (dsimp only; omega)) (And.intro rfl (And.intro rfl (And.intro rfl (And.intro rfl (And.intro (it_eq (by omega)) trivial))))) (And.intro rfl (And.intro (cells_eq rfl ((by with_unfolding_all exact rfl : _ = [AV.d (.it .i64 (1 + (k : Nat)))] ++ (encS (inoS (cutI x 3))).map AV.d ++ [.d (.it .i64 2), .d (.it .i64 (k : Nat)), .d (.it .i64 0)]).trans (ctW (c3 (by omega) (by omega) (by omega) (by omega)).2 ((if_neg (by omega)).trans ((if_neg (by omega)).trans ((if_neg (by omega)).trans (if_pos (by omega))))) hsc).symm)) trivial)) (ctS_ok ..); done)
  · have h16 : k = 16 := by omega
    have hl := cutK_s (rdS d) b k
    (repeat' ((conv=>whnf);first|with_reducible refine gA ?_|((with_reducible refine atA_id ?_); refine AtA.eq (ldW36 hl rfl rfl) ?_)|(with_reducible first|refine gB ?_|refine gZ (fun x hx hu=>?_)|refine gY (fun x hx=>?_)|refine gE ?_|refine Both.mk ?_ ?_|refine gS (fun h=>?_) (fun h=>?_)|refine Spl.nt ?_|refine Spl.mk (fun h=>?_) (fun h=>?_))))
    conv => whnf
    generalize hv : ldA _ 0 _ = v
    have hv' : v = .dg 36 (encW (cutK (rdS d) b k)) := by
      rw [← hv]
      refine ldW36b hl ?_ rfl rfl
      show [] ++ _ ++ List.drop (0 + 36) ((encW w0).map AV.d) = _
      rw [List.nil_append, show List.drop (0 + 36) ((encW w0).map AV.d) = [] from rfl, List.append_nil]
    rw [hv', h16]
    rfl
theorem probs_nil {d : Option Dk} (h : probsD d = []) : nextW d = none := by unfold nextW; rw [h]
theorem probs_cons {d : Option Dk} {p : Int × Int} {t : List (Int × Int)} (h : probsD d = p :: t) : nextW d = some (if p.1 = 6 then cutK (rdS d) p.2 16 else entW (rdS d) p.2.toNat) := by unfold nextW; rw [h]
end Go.Proofs.YtboohandlmnjkaaGreatDoor

/- Mending, walked. Conditions: none. -/
namespace Go.Proofs.YtboohandlmnjkaaGreatDoor
open Go.Sy
set_option maxRecDepth 100000
set_option linter.all false
def nextV (o : Option Wr) : AV := match o with
  | none => .tup [.dg 36 (encW w0), .d (.bl false)]
  | some w => .tup [.dg 36 (encW w), .d (.bl true)]
theorem it_len (d : Dk) : ∀ j, (itD d j).wait.length ≤ d.wait.length + j ∧ (itD d j).log.length ≤ d.log.length + j ∧ d.nx ≤ (itD d j).nx ∧ (itD d j).nx ≤ d.nx + (j : Nat)
  | 0 => by show d.wait.length ≤ _ ∧ d.log.length ≤ _ ∧ d.nx ≤ d.nx ∧ d.nx ≤ d.nx + ((0 : Nat) : Int); omega
  | j + 1 => by
    have h := it_len d j
    show (stepD (itD d j)).wait.length ≤ _ ∧ (stepD (itD d j)).log.length ≤ _ ∧ d.nx ≤ (stepD (itD d j)).nx ∧ (stepD (itD d j)).nx ≤ _
    unfold stepD
    cases nextW (some (itD d j)) with
    | none => dsimp only; omega
    | some w =>
      show ((itD d j).wait ++ [_]).length ≤ _ ∧ ((itD d j).log ++ [_]).length ≤ _ ∧ d.nx ≤ (itD d j).nx + 1 ∧ (itD d j).nx + 1 ≤ _
      rw [List.length_append, List.length_append, List.length_singleton, List.length_singleton]
      omega
def mdA (F : Func) (T0 : Nat) (D : Dk) (j : Nat) : S := ⟨[(0, .yld 12), (1, .ptr 10 0)], [(12, rgL 11 F), (11, .frame 29 [(1, .ptr 5 0), (2, .ptr 6 0), (3, .ptr 7 0), (4, .ptr 8 0)]), (10, .cells 1 [.ptr 0 0]), (8, .cells 1 [.d (.it .i64 (j : Nat))]), (7, .cells 1 [.d (.it .i64 0)]), (6, .cells 1 [.d (.it .i64 0)]), (5, .cells 1 [.ptr 0 0]),
  (0, .cells 6 [.d (.ot (.map none)), .d (.it .i64 D.nx), .d (.fs 32 (D.safe.map encS)), .ts 36 (D.wait.map encW) 1, .ts 38 D.log 2, .d (.it .i64 D.ep)]), (1, .tail 45 true), (2, .tail 63 true), (3, .frame 4 [(0, .ptr 0 0)]), (4, .tag 0 T0)], 13⟩
theorem dkOK_of {d : Dk} (h : Mnt d) (hl : d.wait.length ≤ 100000) : DkOK (some d) := ⟨h.s, h.w, by rw [h.n]; exact Nat.le_refl _, hl⟩
/-- What is written next. -/
def nwD (d : Dk) (j : Nat) : Wr := (nextW (some (itD d j))).getD w0
theorem sec_eq {s : List UInt8} (h : s.length = 32) : s = sec32 fun q => s.getD q 0 := by
  refine List.ext_getElem (by rw [h]; rfl) fun i h1 h2 => ?_
  have h3 : sec32 (fun i => s.getD i 0) = (List.range 32).map (fun i => s.getD i 0) := rfl
  simp only [h3, List.getElem_map, List.getElem_range]
  rw [List.getD_eq_getElem?_getD, List.getElem?_eq_getElem h1]; rfl
theorem next_at {d : Dk} (h : Mnt d) {i j : Nat} (hlt : j < i) (hj : ∀ j, j < i → nextW (some (itD d j)) ≠ none) (hnext : ∀ d : Dk, DkOK (some d) → FnC Tryz.prog 15 [.d (.fp 6 (encDk d))] (nextV (nextW (some d)))) (hl : (itD d j).wait.length ≤ 100000) :
    FnC Tryz.prog 15 [.d (.fp 6 (encDk (itD d j)))] (.tup [.dg 36 (encW ⟨(nwD d j).a, sec32 fun q => (nwD d j).s.getD q 0, (nwD d j).k, (nwD d j).i, (nwD d j).e⟩), .d (.bl true)]) ∧ (0 ≤ (nwD d j).a ∧ (nwD d j).a < (itD d j).safe.length) ∧ wrD (itD d j) ⟨(nwD d j).a, sec32 fun q => (nwD d j).s.getD q 0, (nwD d j).k, (nwD d j).i, 0⟩ = itD d (j + 1) := by
  have hM := it_mnt h j
  have hN := hnext _ (dkOK_of hM hl)
  have hne := hj j hlt
  have hst : itD d (j + 1) = stepD (itD d j) := rfl
  unfold stepD at hst
  unfold nwD
  cases hw : nextW (some (itD d j)) with
  | none => exact absurd hw hne
  | some w =>
    rw [hw] at hN hst
    obtain ⟨_, _, h1, h2, h3⟩ := step_mnt hM hw
    have hs := sec_eq h3
    simp only [Option.getD_some]
    rw [← hs]
    exact ⟨hN, ⟨by omega, by rw [hM.n]; exact h2⟩, by rw [hst]; rfl⟩
set_option maxHeartbeats 16000000 in
theorem mendH_ok (hnext : ∀ d : Dk, DkOK (some d) → FnC Tryz.prog 15 [.d (.fp 6 (encDk d))] (nextV (nextW (some d)))) (hmnt : ∀ d : Dk, Mnt d → d.wait.length ≤ 100000 → FnC Tryz.prog 9 [.d (.fp 6 (encDk d))] (.d (.bl true))) (d : Dk) (h : Mnt d) (hb : d.wait.length ≤ 1000 ∧ d.log.length ≤ 1000 ∧ 0 ≤ d.nx ∧ d.nx ≤ 1000) (i : Nat) (h88 : i ≤ 88) (hi : nextW (some (itD d i)) = none) (hj : ∀ j, j < i → nextW (some (itD d j)) ≠ none) :
    FnH Tryz.prog 10 [.ptr 0 0] (dObs d) 3 [0] (.tup [.d (.it .i64 (i : Nat)), .d (.it .i64 0)]) (dObs (itD d i)) 3 := by
  have hm := hmnt d h (by omega)
  refine FnH.intro ti_ok Tryz.func10 rfl Tryz.ntmps10 Tryz.call10 rfl rfl rfl (Nat.le_refl _) rfl rfl rfl rfl rfl (fun T => ?_)
  (repeat' ((conv=>whnf);first|with_reducible refine gA ?_|((with_reducible refine callE_id ?_); refine CallE.inl ?_) | ((with_reducible refine callI_id ?_); first | with_reducible refine CallI.inl ti_ok i31 rfl ?_ | refine CallI.byR (CallR.mk ⟨[.d (.fp 6 (encDk d))], _, And.intro ⟨6, _, by with_unfolding_all exact rfl, Nat.le_refl _, rfl, rfl⟩ trivial, hm, rfl, ?_⟩))|(with_reducible first|refine gB ?_|refine gZ (fun x hx hu=>?_)|refine gY (fun x hx=>?_)|refine gE ?_|refine Both.mk ?_ ?_|refine gS (fun h=>?_) (fun h=>?_)|refine Spl.nt ?_|refine Spl.mk (fun h=>?_) (fun h=>?_))))
  refine RangeS.intro ti_ok i60 rfl rfl ?_
  (repeat' ((conv=>whnf);first|with_reducible refine gA ?_|(with_reducible first|refine gB ?_|refine gZ (fun x hx hu=>?_)|refine gY (fun x hx=>?_)|refine gE ?_|refine Both.mk ?_ ?_|refine gS (fun h=>?_) (fun h=>?_)|refine Spl.nt ?_|refine Spl.mk (fun h=>?_) (fun h=>?_))))
  conv => whnf
  refine LoopS.wk (τ := mdA Tryz.f10 (T 0) d 0) (Wk.enF (And.intro rfl (And.intro rfl trivial)) (by (repeat (first | exact trivial | refine And.intro (obw_eq rfl (by with_unfolding_all exact rfl)) ?_ | refine And.intro (obw_fr (by with_unfolding_all exact rfl) (by (repeat (first | exact trivial | refine And.intro (by with_unfolding_all exact rfl) ?_)))) ?_))) rfl) ?_
  refine loop_ruleW ti_ok (fun j : Nat => j ≤ i) (fun j => mdA Tryz.f10 (T 0) (itD d j) j) (fun j => i - j) 0 (Nat.zero_le _) (Wk.en ⟨And.intro rfl (And.intro rfl trivial), (by (repeat (first | exact trivial | refine And.intro rfl ?_))), rfl⟩) ?_
  intro j hji
  have hM := it_mnt h j
  have hlen := it_len d j
  by_cases hlt : j < i
  · have hr := next_at h hlt hj hnext (by omega)
    have hN := hr.1
    have hD := hr.2.2
    have hW := writeH_ok (itD d j) (nwD d j).a (sec32 fun q => (nwD d j).s.getD q 0) rfl (nwD d j).k (nwD d j).i ⟨by omega, by omega⟩ (by omega) (by omega) hr.2.1
    rw [hD] at hW
    (repeat' ((conv=>whnf);first|with_reducible refine gA ?_|with_reducible refine AtA.mk' ?_ | ((with_reducible refine callI_id ?_); first | refine CallI.byR (CallR.mk ⟨[.d (.fp 6 (encDk (itD d j)))], _, And.intro ⟨6, _, by with_unfolding_all exact rfl, Nat.le_refl _, rfl, rfl⟩ trivial, hN, by with_unfolding_all exact rfl, ?_⟩) | refine CallI.byH hW [0, 1, 2] (by with_unfolding_all exact rfl) ⟨rfl, by decide, by with_unfolding_all exact rfl⟩ (And.intro rfl (And.intro rfl (And.intro rfl trivial))) rfl rfl ?_) | with_reducible refine YieldI.intro ti_ok (by with_unfolding_all exact rfl) (by with_unfolding_all exact rfl) (by with_unfolding_all exact rfl) ?_|(with_reducible first|refine gB ?_|refine gZ (fun x hx hu=>?_)|refine gY (fun x hx=>?_)|refine gE ?_|refine Both.mk ?_ ?_|refine gS (fun h=>?_) (fun h=>?_)|refine Spl.nt ?_|refine Spl.mk (fun h=>?_) (fun h=>?_))))
    refine ⟨j + 1, hlt, by first | omega | (dsimp only; omega), Wk.enF (And.intro rfl (And.intro rfl trivial)) (by (repeat (first | exact trivial | refine And.intro (obw_eq rfl (by with_unfolding_all exact rfl)) ?_ | refine And.intro (obw_fr (by with_unfolding_all exact rfl) (by (repeat (first | exact trivial | refine And.intro (by with_unfolding_all exact rfl) ?_)))) ?_))) rfl⟩
  · have hje : j = i := by omega
    have hN := hnext (itD d j) (dkOK_of hM (by omega))
    rw [hje, hi] at hN
    subst hje
    (repeat' ((conv=>whnf);first|with_reducible refine gA ?_|((with_reducible refine callI_id ?_); refine CallI.byR (CallR.mk ⟨[.d (.fp 6 (encDk (itD d j)))], _, And.intro ⟨6, _, by with_unfolding_all exact rfl, Nat.le_refl _, rfl, rfl⟩ trivial, hN, rfl, ?_⟩))|(with_reducible first|refine gB ?_|refine gZ (fun x hx hu=>?_)|refine gY (fun x hx=>?_)|refine gE ?_|refine Both.mk ?_ ?_|refine gS (fun h=>?_) (fun h=>?_)|refine Spl.nt ?_|refine Spl.mk (fun h=>?_) (fun h=>?_))))
    exact finH_now rfl (And.intro rfl (And.intro rfl (And.intro rfl trivial))) (And.intro rfl (And.intro rfl trivial))
end Go.Proofs.YtboohandlmnjkaaGreatDoor

/- Mounted, in plain; mending what is not mounted. Conditions: none. -/
namespace Go.Proofs.YtboohandlmnjkaaGreatDoor
open Go.Sy
set_option maxRecDepth 100000
set_option linter.all false
theorem img_len (d : Dk) : (imgD (some d)).length = d.safe.length := by
  show ((List.range d.safe.length).map _).length = _
  rw [List.length_map, List.length_range]
theorem imS_img (d : Dk) (n : Nat) (h : n < d.safe.length) : imS (imgD (some d)) (n : Nat) = rdS (some d) (n : Nat) := by
  have h1 : (imgD (some d))[n]? = some (rdS (some d) (n : Nat)) := by
    show ((List.range d.safe.length).map fun k : Nat => rdS (some d) (k : Nat))[n]? = _
    rw [List.getElem?_map, List.getElem?_range h]; rfl
  unfold imS
  rw [List.getD_eq_getElem?_getD, show ((n : Nat) : Int).toNat = n from rfl, h1]; rfl
theorem mnt_to {d : Dk} (h : Mnt d) : mntP (imgD (some d)) := by
  have h0 := imS_img d 0 (by rw [h.n]; decide)
  have h1 := imS_img d 1 (by rw [h.n]; decide)
  refine ⟨by rw [img_len]; exact h.n, ?_, ?_, ?_⟩
  · exact h0.trans h.f0
  · rw [show imS (imgD (some d)) 1 = _ from h1]; exact h.f1
  · rw [show imS (imgD (some d)) 1 = _ from h1]; exact h.f2
theorem mnt_of {d : Dk} (hd : DkOK (some d)) (h : mntP (imgD (some d))) : Mnt d := by
  have hn : d.safe.length = 65 := by rw [← img_len]; exact h.1
  have h0 := imS_img d 0 (by rw [hn]; decide)
  have h1 := imS_img d 1 (by rw [hn]; decide)
  refine ⟨hd.1, hd.2.1, hn, h0.symm.trans h.2.1, ?_, ?_⟩
  · have := h.2.2.1
    rw [show imS (imgD (some d)) 1 = _ from h1] at this; exact this
  · have := h.2.2.2
    rw [show imS (imgD (some d)) 1 = _ from h1] at this; exact this
theorem mntd_ok (d : Dk) (hd : DkOK (some d)) : FnC Tryz.prog 9 [.d (.fp 6 (encDk d))] (.d (.bl (decide (mntP (imgD (some d)))))) := mounted_ok (some d) hd
theorem mend_not (d : Dk) (hd : DkOK (some d)) (h : ¬ mntP (imgD (some d))) : FnH Tryz.prog 10 [.ptr 0 0] (dObs d) 3 [0] (.tup [.d (.it .i64 0), .d (.it .i64 8)]) (dObs d) 3 := by
  have hm := mntd_ok d hd
  rw [decide_eq_false h] at hm
  refine FnH.intro ti_ok Tryz.func10 rfl Tryz.ntmps10 Tryz.call10 rfl rfl rfl (Nat.le_refl _) rfl rfl rfl rfl rfl (fun T => ?_)
  (repeat' ((conv=>whnf);first|with_reducible refine gA ?_|((with_reducible refine callE_id ?_); refine CallE.inl ?_) | ((with_reducible refine callI_id ?_); first | refine CallI.byR (CallR.mk ⟨[.d (.fp 6 (encDk d))], _, And.intro ⟨6, _, by with_unfolding_all exact rfl, Nat.le_refl _, rfl, rfl⟩ trivial, hm, rfl, ?_⟩))|(with_reducible first|refine gB ?_|refine gZ (fun x hx hu=>?_)|refine gY (fun x hx=>?_)|refine gE ?_|refine Both.mk ?_ ?_|refine gS (fun h=>?_) (fun h=>?_)|refine Spl.nt ?_|refine Spl.mk (fun h=>?_) (fun h=>?_))))
  exact finH_now rfl (And.intro rfl (And.intro rfl (And.intro rfl trivial))) (And.intro rfl (And.intro rfl trivial))
theorem mend_nil : FnC Tryz.prog 10 [.d (.ot (.pointer none))] (.tup [.d (.it .i64 0), .d (.it .i64 8)]) := by
  have hm : FnC Tryz.prog 9 [.d (.ot (.pointer none))] (.d (.bl (decide (mntP (imgD none))))) := mounted_ok none trivial
  rw [decide_eq_false (by intro h; exact absurd h.1 (by decide))] at hm
  refine FnC.intro ti_ok Tryz.func10 rfl Tryz.ntmps10 Tryz.call10 rfl (Nat.le_of_ble_eq_true rfl) rfl ?_
  (repeat' ((conv=>whnf);first|with_reducible refine gA ?_|((with_reducible refine callE_id ?_); (refine CallE.con ⟨_, hm, ?_⟩))|(with_reducible first|refine gB ?_|refine gZ (fun x hx hu=>?_)|refine gY (fun x hx=>?_)|refine gE ?_|refine Both.mk ?_ ?_|refine gS (fun h=>?_) (fun h=>?_)|refine Spl.nt ?_|refine Spl.mk (fun h=>?_) (fun h=>?_))))
  rfl
theorem it_log {d : Dk} : ∀ {i : Nat}, (∀ j, j < i → nextW (some (itD d j)) ≠ none) → (itD d i).log.length = d.log.length + i
  | 0, _ => rfl
  | i + 1, h => by
    have ih := it_log (d := d) (i := i) fun j hj => h j (by omega)
    show (stepD (itD d i)).log.length = _
    unfold stepD
    cases hw : nextW (some (itD d i)) with
    | none => exact absurd hw (h i (by omega))
    | some w =>
      show ((itD d i).log ++ [_]).length = _
      rw [List.length_append, ih, List.length_singleton]; omega
theorem nextW_none {d : Option Dk} : nextW d = none ↔ probsD d = [] := by
  unfold nextW
  cases probsD d with
  | nil => exact ⟨fun _ => rfl, fun _ => rfl⟩
  | cons p t => exact ⟨(fun h => by cases h), (fun h => by cases h)⟩
end Go.Proofs.YtboohandlmnjkaaGreatDoor

/- A disk's log. Conditions: none. -/
namespace Go.Proofs.YtboohandlmnjkaaGreatDoor
open Go.Sy
set_option maxRecDepth 100000
set_option linter.all false
theorem tagClone_ok : FnC Tryz.prog 26 [.d (.fs 2 [])] (.d (.fs 2 [])) := by
  refine FnC.intro ti_ok Tryz.func26 rfl Tryz.ntmps26 Tryz.call26 rfl (Nat.le_of_ble_eq_true rfl) rfl ?_
  (repeat' ((conv=>whnf);first|with_reducible refine gA ?_|(with_reducible first|refine gB ?_|refine gZ (fun x hx hu=>?_)|refine gY (fun x hx=>?_)|refine gE ?_|refine Both.mk ?_ ?_|refine gS (fun h=>?_) (fun h=>?_)|refine Spl.nt ?_|refine Spl.mk (fun h=>?_) (fun h=>?_))))
  all_goals rfl
def lgA (d : Dk) (ws : List Wr) (T0 : Nat) (k : Nat) : S := ⟨[(3, .vx 38 8 0 ws.length), (13, .d (.it .i64 (ws.length : Nat))), (14, .d (.it .i64 (k : Nat)))], [(8, .vec 63 38 (ws.map encEv) false), (0, .cells 6 [.d (.ot (.map none)), .d (.it .i64 d.nx), .d (.fs 32 (d.safe.map encS)), .ts 36 (d.wait.map encW) 1, .ts 38 (ws.map encEv) 2, .d (.it .i64 d.ep)]), (1, .tail 45 true), (2, .tail 63 true), (3, .frame 4 [(0, .ptr 0 0)]), (4, .tag 0 T0)], 9⟩
theorem take_same {α : Type} {l : List α} {k : Nat} {c : α} (h : l[k]? = some c) : l.take k ++ [c] ++ l.drop (k + 1) = l := by
  obtain ⟨h1, h2⟩ := List.getElem?_eq_some_iff.1 h
  rw [List.append_assoc, List.singleton_append, ← h2, ← List.drop_eq_getElem_cons h1, List.take_append_drop]
set_option maxHeartbeats 8000000 in
theorem logH_ok (d : Dk) (ws : List Wr) (hl : d.log = ws.map encEv) (hs : d.safe.length ≠ 0) (hlen : ws.length ≤ 10000) (hw0 : ws ≠ []) (hw : ∀ w ∈ ws, w.s.length = 32) : FnH Tryz.prog 7 [.ptr 0 0] (dObs d) 3 [0] (.d (.fs 38 d.log)) (dObs d) 3 := by
  have hn : FnC Tryz.prog 24 [.d (.fp 6 (encDk d))] (.d (.bl false)) := by
    have := none_ok (some d)
    rw [show noneB (some d) = false from decide_eq_false hs] at this
    exact this
  have ht := tagClone_ok
  have hne : (ws.map encEv).isEmpty = false := by
    cases ws with
    | nil => exact absurd rfl hw0
    | cons => rfl
  have hll : (ws.map encEv).length = ws.length := List.length_map ..
  have hd : dObs d = [(0, .cells 6 [.d (.ot (.map none)), .d (.it .i64 d.nx), .d (.fs 32 (d.safe.map encS)), .ts 36 (d.wait.map encW) 1, .ts 38 (ws.map encEv) 2, .d (.it .i64 d.ep)]), (1, .tail 45 true), (2, .tail 63 true)] := by rw [← hl]; rfl
  have he : .fp 6 (encDk d) = D.fp 6 [.ot (.map none), .it .i64 d.nx, .fs 32 (d.safe.map encS), .fs 36 (d.wait.map encW), .fs 38 (ws.map encEv), .it .i64 d.ep] := by rw [← hl]; rfl
  rw [he] at hn
  rw [hd, hl]
  refine FnH.intro ti_ok Tryz.func7 rfl Tryz.ntmps7 Tryz.call7 rfl rfl rfl (Nat.le_refl _) rfl rfl rfl rfl rfl (fun T => ?_)
  (repeat' ((conv=>whnf);first|with_reducible refine gA ?_|((with_reducible refine callE_id ?_); first | (refine CallE.con ⟨_, ht, ?_⟩) | refine CallE.inl ?_) | ((with_reducible refine nils_id ?_); first | refine NilS.vec (And.intro rfl ?_) | refine NilS.vec ?_) | with_reducible refine Spl.no hne ?_ | ((with_reducible refine callI_id ?_); first | refine CallI.byR (CallR.mk ⟨[.d (.fp 6 _)], _, And.intro ⟨6, _, by with_unfolding_all exact rfl, Nat.le_refl _, rfl, rfl⟩ trivial, hn, rfl, ?_⟩) | with_reducible refine CallI.inl ti_ok i25 rfl ?_)|(with_reducible first|refine gB ?_|refine gZ (fun x hx hu=>?_)|refine gY (fun x hx=>?_)|refine gE ?_|refine Both.mk ?_ ?_|refine gS (fun h=>?_) (fun h=>?_)|refine Spl.nt ?_|refine Spl.mk (fun h=>?_) (fun h=>?_))))
  conv => whnf
  refine loop_rule ti_ok (fun k : Nat => k ≤ ws.length) (lgA d ws (T 0)) (fun k => ws.length - k) 0 (Nat.zero_le _) ⟨And.intro (vx_eq hll) (And.intro (it_eq (by rw [hll])) (And.intro rfl trivial)), And.intro rfl (And.intro rfl (And.intro rfl (And.intro rfl (And.intro rfl (And.intro rfl trivial))))), rfl⟩ ?_
  intro k hk
  by_cases hkl : k < ws.length
  · obtain ⟨x, hx⟩ := lt_get hkl
    have hxs := hw x (List.mem_of_getElem? hx)
    obtain ⟨xa, xs, xk, xi, xe⟩ := x
    obtain ⟨g, rfl⟩ := is32 hxs
    have hxe : (ws.map encEv)[k]? = some (encEv ⟨xa, sec32 g, xk, xi, xe⟩) := by rw [List.getElem?_map, hx]; rfl
    have hsm := take_same hxe
    have hxe0 : (ws.map encEv)[0 + ((k : Nat) : Int).toNat]? = some (encEv ⟨xa, sec32 g, xk, xi, xe⟩) := by rw [Nat.zero_add]; exact hxe
    have hsm0 := take_same hxe0
    (repeat' ((conv=>whnf);first|with_reducible refine gA ?_|with_reducible refine AtA.mk' ?_ | refine at_some hxe ?_ | refine at_some hxe0 ?_ | ((with_reducible refine callE_id ?_); (refine CallE.con ⟨_, ht, ?_⟩)) | ((with_reducible refine opX_id ?_); refine OpX.storeF (es2 := ws.map encEv) ti_ok rfl rfl rfl (by with_unfolding_all exact rfl) (by with_unfolding_all exact rfl) (by with_unfolding_all exact rfl) (by with_unfolding_all exact rfl) rfl rfl rfl rfl hxe0 hsm0.symm ?_)|(with_reducible first|refine gB ?_|refine gZ (fun x hx hu=>?_)|refine gY (fun x hx=>?_)|refine gE ?_|refine Both.mk ?_ ?_|refine gS (fun h=>?_) (fun h=>?_)|refine Spl.nt ?_|refine Spl.mk (fun h=>?_) (fun h=>?_))))
    refine again (k + 1) hkl (by first | omega | (dsimp only; omega)) (And.intro rfl (And.intro rfl (And.intro (it_eq (by omega)) trivial))) (And.intro rfl (And.intro rfl (And.intro rfl (And.intro rfl (And.intro rfl (And.intro rfl trivial)))))) rfl
  · have hke : k = ws.length := by omega
    (repeat' ((conv=>whnf);first|with_reducible refine gA ?_|(with_reducible first|refine gB ?_|refine gZ (fun x hx hu=>?_)|refine gY (fun x hx=>?_)|refine gE ?_|refine Both.mk ?_ ?_|refine gS (fun h=>?_) (fun h=>?_)|refine Spl.nt ?_|refine Spl.mk (fun h=>?_) (fun h=>?_))))
    refine ⟨⟨[(2, .d (.fs 38 (ws.map encEv)))], [(0, .cells 6 [.d (.ot (.map none)), .d (.it .i64 d.nx), .d (.fs 32 (d.safe.map encS)), .ts 36 (d.wait.map encW) 1, .ts 38 (ws.map encEv) 2, .d (.it .i64 d.ep)]), (1, .tail 45 true), (2, .tail 63 true), (3, .frame 4 [(0, .ptr 0 0)]), (4, .tag 0 (T 0))], 9⟩,
      Wk.frzL 8 63 38 (ws.map encEv) false (by with_unfolding_all exact rfl) (And.intro (Fz.vx 0 ws.length _ (by rw [hll]; omega) (by rw [List.drop_zero, List.take_of_length_le (by rw [hll]; exact Nat.le_refl _)])) trivial) (And.intro rfl (And.intro (FzO.same _) (And.intro rfl (And.intro (FzO.same _) (And.intro rfl (And.intro (FzO.same _) (And.intro rfl (And.intro (FzO.same _) (And.intro rfl (And.intro (FzO.same _) trivial)))))))))) rfl, rfl, And.intro rfl (And.intro rfl (And.intro rfl trivial)), And.intro rfl (And.intro rfl trivial)⟩
set_option maxHeartbeats 8000000 in
theorem logH_nil (d : Dk) (hl : d.log = []) (hs : d.safe.length ≠ 0) : FnH Tryz.prog 7 [.ptr 0 0] (dObs d) 3 [0] (.d (.fs 38 [])) (dObs d) 3 := by
  have hn : FnC Tryz.prog 24 [.d (.fp 6 (encDk d))] (.d (.bl false)) := by
    have := none_ok (some d)
    rw [show noneB (some d) = false from decide_eq_false hs] at this
    exact this
  have hd : dObs d = [(0, .cells 6 [.d (.ot (.map none)), .d (.it .i64 d.nx), .d (.fs 32 (d.safe.map encS)), .ts 36 (d.wait.map encW) 1, .ts 38 [] 2, .d (.it .i64 d.ep)]), (1, .tail 45 true), (2, .tail 63 true)] := by rw [← hl]; rfl
  have he : .fp 6 (encDk d) = D.fp 6 [.ot (.map none), .it .i64 d.nx, .fs 32 (d.safe.map encS), .fs 36 (d.wait.map encW), .fs 38 [], .it .i64 d.ep] := by rw [← hl]; rfl
  rw [he] at hn
  rw [hd]
  refine FnH.intro ti_ok Tryz.func7 rfl Tryz.ntmps7 Tryz.call7 rfl rfl rfl (Nat.le_refl _) rfl rfl rfl rfl rfl (fun T => ?_)
  (repeat' ((conv=>whnf);first|with_reducible refine gA ?_|((with_reducible refine callE_id ?_); refine CallE.inl ?_) | ((with_reducible refine callI_id ?_); first | refine CallI.byR (CallR.mk ⟨[.d (.fp 6 _)], _, And.intro ⟨6, _, by with_unfolding_all exact rfl, Nat.le_refl _, rfl, rfl⟩ trivial, hn, rfl, ?_⟩) | with_reducible refine CallI.inl ti_ok i25 rfl ?_) | with_reducible refine LoopS.unroll ti_ok 1 ?_|(with_reducible first|refine gB ?_|refine gZ (fun x hx hu=>?_)|refine gY (fun x hx=>?_)|refine gE ?_|refine Both.mk ?_ ?_|refine gS (fun h=>?_) (fun h=>?_)|refine Spl.nt ?_|refine Spl.mk (fun h=>?_) (fun h=>?_))))
  all_goals refine ⟨⟨[(2, .d (.fs 38 []))], [(0, .cells 6 [.d (.ot (.map none)), .d (.it .i64 d.nx), .d (.fs 32 (d.safe.map encS)), .ts 36 (d.wait.map encW) 1, .ts 38 [] 2, .d (.it .i64 d.ep)]), (1, .tail 45 true), (2, .tail 63 true), (3, .frame 4 [(0, .ptr 0 0)]), (4, .tag 0 (T 0))], 6⟩,
      Wk.vwL (And.intro (by first | exact Vw.ts' rfl | exact Vw.eq rfl | exact Vw.tg' rfl) trivial) (And.intro (VwO.same _) (And.intro (VwO.same _) (And.intro (VwO.same _) (And.intro (VwO.same _) (And.intro (VwO.same _) trivial))))) rfl, rfl, And.intro rfl (And.intro rfl (And.intro rfl trivial)), And.intro rfl (And.intro rfl trivial)⟩
end Go.Proofs.YtboohandlmnjkaaGreatDoor

/- What is written next, walked. Conditions: none. -/
namespace Go.Proofs.YtboohandlmnjkaaGreatDoor
open Go.Sy
set_option maxRecDepth 100000
set_option linter.all false
set_option maxHeartbeats 8000000 in
theorem next38_ok (d : Dk) (hd : DkOK (some d)) : FnC Tryz.prog 15 [.d (.fp 6 (encDk d))] (nextV (nextW (some d))) := by
  have hc : FnC Tryz.prog 34 [.d (.fp 6 (encDk d))] (.d (.fs 2 ((probsD (some d)).map encP))) := check_ok (some d) hd
  cases hp : probsD (some d) with
  | nil =>
    rw [hp] at hc
    rw [probs_nil hp]
    refine FnC.intro ti_ok Tryz.func15 rfl Tryz.ntmps15 Tryz.call15 rfl (Nat.le_of_ble_eq_true rfl) rfl ?_
    (repeat' ((conv=>whnf);first|with_reducible refine gA ?_|((with_reducible refine callE_id ?_); (refine CallE.con ⟨_, hc, ?_⟩))|(with_reducible first|refine gB ?_|refine gZ (fun x hx hu=>?_)|refine gY (fun x hx=>?_)|refine gE ?_|refine Both.mk ?_ ?_|refine gS (fun h=>?_) (fun h=>?_)|refine Spl.nt ?_|refine Spl.mk (fun h=>?_) (fun h=>?_))))
    rfl
  | cons p t =>
    rw [hp] at hc
    rw [probs_cons hp]
    have hl : (List.map encP t).length = t.length := List.length_map ..
    rcases probs_head hp with ⟨kind, k, k1, k2, k3, rfl, hP⟩ | ⟨b, b1, b2, rfl, hb⟩
    · have he := mentry_ok (some d) hd k k3
      rw [if_neg (show ¬ ((kind : Nat) : Int) = 6 by omega)]
      show FnC _ _ _ (.tup [.dg 36 (encW (entW (rdS (some d)) k)), .d (.bl true)])
      have hc : FnC Tryz.prog 34 [.d (.fp 6 (encDk d))] (.d (.fs 2 ([.it .i64 (kind : Nat), .it .i64 (k : Nat)] :: t.map encP))) := hc
      refine FnC.intro ti_ok Tryz.func15 rfl Tryz.ntmps15 Tryz.call15 rfl (Nat.le_of_ble_eq_true rfl) rfl ?_
      (repeat' ((conv=>whnf);first|with_reducible refine gA ?_|((with_reducible refine callE_id ?_); first | (refine CallE.con ⟨_, hc, ?_⟩) | (refine CallE.con ⟨_, he, ?_⟩))|(with_reducible first|refine gB ?_|refine gZ (fun x hx hu=>?_)|refine gY (fun x hx=>?_)|refine gE ?_|refine Both.mk ?_ ?_|refine gS (fun h=>?_) (fun h=>?_)|refine Spl.nt ?_|refine Spl.mk (fun h=>?_) (fun h=>?_))))
      rfl
    · have he := cut38_ok (some d) hd ((b : Nat) : Int) ⟨by omega, by omega⟩
      rw [if_pos rfl]
      have hs := cutK_s (rdS (some d)) ((b : Nat) : Int) 16
      show FnC _ _ _ (.tup [.dg 36 (encW (cutK (rdS (some d)) ((b : Nat) : Int) 16)), .d (.bl true)])
      generalize cutK (rdS (some d)) ((b : Nat) : Int) 16 = w at *
      have hc : FnC Tryz.prog 34 [.d (.fp 6 (encDk d))] (.d (.fs 2 ([.it .i64 6, .it .i64 (b : Nat)] :: t.map encP))) := hc
      refine FnC.intro ti_ok Tryz.func15 rfl Tryz.ntmps15 Tryz.call15 rfl (Nat.le_of_ble_eq_true rfl) rfl ?_
      (repeat' ((conv=>whnf);first|with_reducible refine gA ?_|((with_reducible refine callE_id ?_); first | (refine CallE.con ⟨_, hc, ?_⟩) | (refine CallE.con ⟨_, he, ?_⟩))|(with_reducible first|refine gB ?_|refine gZ (fun x hx hu=>?_)|refine gY (fun x hx=>?_)|refine gE ?_|refine Both.mk ?_ ?_|refine gS (fun h=>?_) (fun h=>?_)|refine Spl.nt ?_|refine Spl.mk (fun h=>?_) (fun h=>?_))))
      conv => whnf
      generalize hv : ldA _ 0 _ = v
      have hv' : v = .dg 36 (encW w) := by
        rw [← hv]
        refine ldW36b hs ?_ rfl rfl
        refine Eq.trans (List.append_nil ([] ++ _)) ?_
        exact List.nil_append _
      rw [hv']
      rfl
end Go.Proofs.YtboohandlmnjkaaGreatDoor

/- What must come of a mending. Conditions: none. -/
namespace Go.Proofs.YtboohandlmnjkaaGreatDoor
open Go.Sy
set_option maxRecDepth 100000
set_option linter.all false
def kW38 : List Wr := [⟨19, k1S, 0, 0, 0⟩]
theorem kw38_ok : WsOK kW38 := by
  intro w hw
  simp only [kW38, List.mem_cons, List.not_mem_nil, or_false] at hw
  rcases hw with rfl; rfl
def d38 : Dk := dskD emptyM kW38
def w38 : Wr := ⟨19, zeroS, 3, 0, 0⟩
theorem kn1 : nextW (some d38) = some w38 := by kernel_rfl
theorem kn2 : nextW (some (itD d38 1)) = none := by kernel_rfl
theorem km38 : mntP (imgD (some d38)) := by decide +kernel
theorem num38_ok (n : Int) : FnC Tryz.prog 11 [.d (.it .i64 n)] (.d (.it .i64 n)) := by
  refine FnC.intro ti_ok Tryz.func11 rfl Tryz.ntmps11 Tryz.call11 rfl (Nat.le_of_ble_eq_true rfl) rfl ?_
  (repeat' ((conv=>whnf);first|with_reducible refine gA ?_|(with_reducible first|refine gB ?_|refine gZ (fun x hx hu=>?_)|refine gY (fun x hx=>?_)|refine gE ?_|refine Both.mk ?_ ?_|refine gS (fun h=>?_) (fun h=>?_)|refine Spl.nt ?_|refine Spl.mk (fun h=>?_) (fun h=>?_))))
  rfl
theorem hmnt38 (d : Dk) (h : Mnt d) (hl : d.wait.length ≤ 100000) : FnC Tryz.prog 9 [.d (.fp 6 (encDk d))] (.d (.bl true)) := by
  have := mntd_ok d (dkOK_of h hl)
  rw [decide_eq_true (mnt_to h)] at this
  exact this
set_option maxHeartbeats 16000000 in
theorem knows38_ok : FnC Tryz.prog 5 [] (.d (.bl true)) := by
  have ke := empty_ok
  have hOK : DkOK (some d38) := by
    have := dsk_OK (m := emptyM) (ws := kW38) em_ok kw38_ok (by decide)
    rw [show dskOf emptyM kW38 = some _ from if_pos (by decide)] at this
    exact this
  have hM := mnt_of hOK km38
  have hd : FnH Tryz.prog 6 [.d (encM emptyM), .d (.fs 36 (kW38.map encW))] [] 0 [] (.ptr 8 0) (dObsN 8 9 10 d38) 11 := diskH_ok emptyM em_ok kW38 kw38_ok (by decide) (by decide)
  have hx := mendH_ok next38_ok hmnt38 d38 hM ⟨by decide, by decide, by decide, by decide⟩ 1 (by decide) kn2 (fun j hj => by
    have : j = 0 := by omega
    subst this
    show nextW (some d38) ≠ none
    rw [kn1]; simp)
  have hN1 := next38_ok d38 hOK
  rw [kn1] at hN1
  have hN1 : FnC Tryz.prog 15 [.d (.fp 6 (encDk d38))] (.tup [.dg 36 (encW w38), .d (.bl true)]) := hN1
  have hM1 := it_mnt hM 1
  have hl1 := it_len d38 1
  have hw1 : d38.wait.length ≤ 1000 := by decide
  have hN2 := next38_ok (itD d38 1) (dkOK_of hM1 (by omega))
  rw [kn2] at hN2
  have hN2 : FnC Tryz.prog 15 [.d (.fp 6 (encDk (itD d38 1)))] (.tup [.dg 36 (encW w0), .d (.bl false)]) := hN2
  have hnl := mend_nil
  have n0 := num38_ok 0
  have n8 := num38_ok 8
  generalize itD d38 1 = D at *
  generalize d38 = d at *
  refine FnC.intro ti_ok Tryz.func5 rfl Tryz.ntmps5 Tryz.call5 rfl (Nat.le_of_ble_eq_true rfl) rfl ?_
  (repeat' ((conv=>whnf);first|with_reducible refine gA ?_|((with_reducible refine callE_id ?_); first | (refine CallE.con ⟨_, ke, ?_⟩) | (refine CallE.con ⟨_, n0, ?_⟩) | (refine CallE.con ⟨_, n8, ?_⟩) | (refine CallE.con ⟨_, hnl, ?_⟩) | refine CallE.inl ?_) | ((with_reducible refine callI_id ?_); first | refine CallI.byHp hd [] (And.intro (.inl rfl) (And.intro (.inr (by with_unfolding_all exact rfl)) trivial)) ⟨rfl, by decide, rfl⟩ trivial rfl rfl ?_ | refine CallI.byR (CallR.mk ⟨[.d (.fp 6 (encDk d))], _, And.intro ⟨6, _, by with_unfolding_all exact rfl, Nat.le_refl _, rfl, rfl⟩ trivial, hN1, by with_unfolding_all exact rfl, ?_⟩) | refine CallI.byH hx [8, 9, 10] (by with_unfolding_all exact rfl) ⟨rfl, by decide, by with_unfolding_all exact rfl⟩ (And.intro rfl (And.intro rfl (And.intro rfl trivial))) rfl rfl ?_)|(with_reducible first|refine gB ?_|refine gZ (fun x hx hu=>?_)|refine gY (fun x hx=>?_)|refine gE ?_|refine Both.mk ?_ ?_|refine gS (fun h=>?_) (fun h=>?_)|refine Spl.nt ?_|refine Spl.mk (fun h=>?_) (fun h=>?_))))
  (repeat' ((conv=>whnf);first|with_reducible refine gA ?_|((with_reducible refine callE_id ?_); first | (refine CallE.con ⟨_, n0, ?_⟩) | (refine CallE.con ⟨_, n8, ?_⟩) | (refine CallE.con ⟨_, hnl, ?_⟩) | refine CallE.inl ?_) | ((with_reducible refine callI_id ?_); first | refine CallI.byR (CallR.mk ⟨[.d (.fp 6 (encDk D))], _, And.intro ⟨6, _, by with_unfolding_all exact rfl, Nat.le_refl _, rfl, rfl⟩ trivial, hN2, by with_unfolding_all exact rfl, ?_⟩))|(with_reducible first|refine gB ?_|refine gZ (fun x hx hu=>?_)|refine gY (fun x hx=>?_)|refine gE ?_|refine Both.mk ?_ ?_|refine gS (fun h=>?_) (fun h=>?_)|refine Spl.nt ?_|refine Spl.mk (fun h=>?_) (fun h=>?_))))

  rfl
end Go.Proofs.YtboohandlmnjkaaGreatDoor

/- The law. Conditions: none. -/
namespace Go.Proofs.YtboohandlmnjkaaGreatDoor
open Go.Sy
set_option maxRecDepth 100000
set_option linter.all false
/-- A log of writes alone. -/
def LogW (l : List (List D)) : Prop := ∃ ws : List Wr, l = ws.map encEv ∧ ∀ w ∈ ws, w.s.length = 32
theorem log_nil : FnC Tryz.prog 7 [.d (.ot (.pointer none))] (.d (.fs 38 [])) := by
  have hn : FnC Tryz.prog 24 [.d (.ot (.pointer none))] (.d (.bl true)) := none_ok none
  refine FnC.intro ti_ok Tryz.func7 rfl Tryz.ntmps7 Tryz.call7 rfl (Nat.le_of_ble_eq_true rfl) rfl ?_
  (repeat' ((conv=>whnf);first|with_reducible refine gA ?_|((with_reducible refine callE_id ?_); (refine CallE.con ⟨_, hn, ?_⟩))|(with_reducible first|refine gB ?_|refine gZ (fun x hx hu=>?_)|refine gY (fun x hx=>?_)|refine gE ?_|refine Both.mk ?_ ?_|refine gS (fun h=>?_) (fun h=>?_)|refine Spl.nt ?_|refine Spl.mk (fun h=>?_) (fun h=>?_))))
  rfl
theorem log_it {d : Dk} (h : LogW d.log) (hM : Mnt d) : ∀ i, LogW (itD d i).log
  | 0 => h
  | i + 1 => by
    show LogW (stepD (itD d i)).log
    unfold stepD
    cases hw : nextW (some (itD d i)) with
    | none => exact log_it h hM i
    | some w =>
      obtain ⟨ws, e, h32⟩ := log_it h hM i
      refine ⟨ws ++ [{ w with e := (itD d i).ep }], ?_, fun x hx => ?_⟩
      · show (itD d i).log ++ [_] = _
        rw [e, List.map_append]; rfl
      · rcases List.mem_append.1 hx with hx | hx
        · exact h32 x hx
        · rw [List.mem_singleton.1 hx]
          exact (step_mnt (it_mnt hM i) hw).2.2.2.2
theorem logH (d : Dk) (h : LogW d.log) (hs : d.safe.length ≠ 0) (hl : d.log.length ≤ 10000) : FnH Tryz.prog 7 [.ptr 0 0] (dObs d) 3 [0] (.d (.fs 38 d.log)) (dObs d) 3 := by
  obtain ⟨ws, e, h32⟩ := h
  by_cases h0 : ws = []
  · have e : d.log = [] := by rw [e, h0]; rfl
    rw [e]
    exact logH_nil d e hs
  · exact logH_ok d ws e hs (by rw [e, List.length_map] at hl; exact hl) h0 h32
set_option maxHeartbeats 16000000 in
theorem law38_ok
    (m : List (List UInt8)) (hm : ImOK m) (ws : List Wr) (hw : WsOK ws) : FnC Tryz.prog 3 [.d (encM m), .d (.fs 36 (ws.map encW))] (.d (.bl true)) := by
  have hml : (m.map encS).length = m.length := List.length_map ..
  have hwl : (ws.map encW).length = ws.length := List.length_map ..
  have hmnt : ∀ d : Dk, Mnt d → d.wait.length ≤ 100000 → FnC Tryz.prog 9 [.d (.fp 6 (encDk d))] (.d (.bl true)) := fun d h hl => by
    have := mntd_ok d (dkOK_of h hl)
    rw [decide_eq_true (mnt_to h)] at this
    exact this
  have hcl : ∀ d : Dk, DkOK (some d) → FnC Tryz.prog 8 [.d (.fp 6 (encDk d))] (.d (.bl (decide (probsD (some d) = [])))) := fun d h => clean_ok (some d) h
  have hlog := logH
  have hnext := next38_ok
  have hk := knows38_ok
  have n8 := num38_ok 8
  have n0 := num38_ok 0
  by_cases hs : m.length ≤ 200 ∧ ws.length ≤ 40
  · by_cases hz : 1 ≤ m.length ∧ m.length ≤ 65
    · have hd := diskH_ok m hm ws hw (by omega) hz
      have hOK : DkOK (some (dskD m ws)) := by
        have := dsk_OK (m := m) (ws := ws) hm hw (by omega)
        rw [show dskOf m ws = some _ from if_pos hz] at this
        exact this
      have hLW : LogW (dskD m ws).log := ⟨wts m.length ws, rfl, fun w hw' => by
        unfold wts at hw'
        obtain ⟨x, hx, rfl⟩ := List.mem_map.1 hw'
        exact hw x (List.mem_filter.1 hx).1⟩
      have hll : (dskD m ws).log.length ≤ 40 := by
        show ((wts m.length ws).map encEv).length ≤ 40
        rw [List.length_map]
        unfold wts
        rw [List.length_map]
        exact Nat.le_trans (List.length_filter_le _ _) (by omega)
      have hsl : (dskD m ws).safe.length ≠ 0 := by show m.length ≠ 0; omega
      have hL0 := hlog (dskD m ws) hLW hsl (by omega)
      have hc0 := hcl (dskD m ws) hOK
      have hm0 := mntd_ok (dskD m ws) hOK
      by_cases hM : mntP (imgD (some (dskD m ws)))
      · have hMn := mnt_of hOK hM
        rw [decide_eq_true hM] at hm0
        obtain ⟨i, hi88, hi, hj⟩ := it_end hMn
        have h88 := Nat.le_trans hi88 (mu_le _)
        have hwl0 : (dskD m ws).wait.length ≤ 40 := by
          show (wts m.length ws).length ≤ 40
          unfold wts
          rw [List.length_map]
          exact Nat.le_trans (List.length_filter_le _ _) (by omega)
        have hnx0 : (dskD m ws).nx = ws.length := rfl
        have hln := it_len (dskD m ws) i
        have hlg := it_log hj
        have hMi := it_mnt hMn i
        have hOKi := dkOK_of hMi (by omega)
        have hx := mendH_ok hnext hmnt (dskD m ws) hMn ⟨by omega, by omega, by omega, by omega⟩ i h88 hi hj
        have hx2 := mendH_ok hnext hmnt (itD (dskD m ws) i) hMi ⟨by omega, by omega, by omega, by omega⟩ 0 (by omega) hi (fun j hj => by omega)
        have hL1 := hlog (itD (dskD m ws) i) (log_it hLW hMn i) (by rw [hMi.n]; decide) (by omega)
        have hc1 := hcl (itD (dskD m ws) i) hOKi
        rw [decide_eq_true (nextW_none.1 hi)] at hc1
        have hm1 := hmnt (itD (dskD m ws) i) hMi (by omega)
        have hi0 : i = 0 ↔ probsD (some (dskD m ws)) = [] := by
          constructor
          · rintro rfl; exact nextW_none.1 hi
          · intro hp
            rcases Nat.eq_zero_or_pos i with h | h
            · exact h
            · exact absurd (nextW_none.2 hp) (hj 0 h)
        have hx2 : FnH Tryz.prog 10 [.ptr 0 0] (dObs (itD (dskD m ws) i)) 3 [0] (.tup [.d (.it .i64 0), .d (.it .i64 0)]) (dObs (itD (dskD m ws) i)) 3 := hx2
        have hib : (((i : Nat) : Int) == 0) = decide (probsD (some (dskD m ws)) = []) := by
          by_cases hp : probsD (some (dskD m ws)) = []
          · rw [decide_eq_true hp, hi0.2 hp]; rfl
          · rw [decide_eq_false hp, beq_eq_false_iff_ne]
            intro e
            exact hp (hi0.1 (by omega))
        generalize hcb : decide (probsD (some (dskD m ws)) = []) = cb at hc0 hib
        generalize itD (dskD m ws) i = D at *
        generalize dskD m ws = d at *
        refine FnC.intro ti_ok Tryz.func3 rfl Tryz.ntmps3 Tryz.call3 rfl (Nat.le_of_ble_eq_true rfl) rfl ?_
        by_cases hcb2 : cb = true
        all_goals (repeat' ((conv=>whnf);first|with_reducible refine gA ?_|((with_reducible refine callE_id ?_); first | (refine CallE.con ⟨_, hk, ?_⟩) | (refine CallE.con ⟨_, n8, ?_⟩) | (refine CallE.con ⟨_, n0, ?_⟩) | refine CallE.inl ?_) | ((with_reducible refine callI_id ?_); first | refine CallI.byH hd [] (by with_unfolding_all exact rfl) ⟨rfl, by decide, rfl⟩ trivial rfl rfl ?_ | refine CallI.byH hL0 [8, 9, 10] (by with_unfolding_all exact rfl) ⟨rfl, by decide, by with_unfolding_all exact rfl⟩ (And.intro rfl (And.intro rfl (And.intro rfl trivial))) rfl rfl ?_ | refine CallI.byH hx [8, 9, 10] (by with_unfolding_all exact rfl) ⟨rfl, by decide, by with_unfolding_all exact rfl⟩ (And.intro rfl (And.intro rfl (And.intro rfl trivial))) rfl rfl ?_ | refine CallI.byR (CallR.mk ⟨[.d (.fp 6 (encDk d))], _, And.intro ⟨6, _, by with_unfolding_all exact rfl, Nat.le_refl _, rfl, rfl⟩ trivial, hc0, rfl, ?_⟩) | refine CallI.byR (CallR.mk ⟨[.d (.fp 6 (encDk d))], _, And.intro ⟨6, _, by with_unfolding_all exact rfl, Nat.le_refl _, rfl, rfl⟩ trivial, hm0, rfl, ?_⟩)) | ((with_reducible refine spl_id ?_); refine Spl.no (by rw [hib]; first | (rw [hcb2]; rfl) | (rw [show cb = false by simpa using hcb2]; rfl)) ?_)|(with_reducible first|refine gB ?_|refine gZ (fun x hx hu=>?_)|refine gY (fun x hx=>?_)|refine gE ?_|refine Both.mk ?_ ?_|refine gS (fun h=>?_) (fun h=>?_)|refine Spl.nt ?_|refine Spl.mk (fun h=>?_) (fun h=>?_))))
        all_goals (repeat' ((conv=>whnf);first|with_reducible refine gA ?_|((with_reducible refine callE_id ?_); first | (refine CallE.con ⟨_, hk, ?_⟩) | (refine CallE.con ⟨_, n8, ?_⟩) | (refine CallE.con ⟨_, n0, ?_⟩) | refine CallE.inl ?_) | ((with_reducible refine callI_id ?_); first | refine CallI.byH hd [] (by with_unfolding_all exact rfl) ⟨rfl, by decide, rfl⟩ trivial rfl rfl ?_ | refine CallI.byH hL1 [8, 9, 10] (by with_unfolding_all exact rfl) ⟨rfl, by decide, by with_unfolding_all exact rfl⟩ (And.intro rfl (And.intro rfl (And.intro rfl trivial))) rfl rfl ?_ | refine CallI.byH hx2 [8, 9, 10] (by with_unfolding_all exact rfl) ⟨rfl, by decide, by with_unfolding_all exact rfl⟩ (And.intro rfl (And.intro rfl (And.intro rfl trivial))) rfl rfl ?_ | refine CallI.byR (CallR.mk ⟨[.d (.fp 6 (encDk D))], _, And.intro ⟨6, _, by with_unfolding_all exact rfl, Nat.le_refl _, rfl, rfl⟩ trivial, hc1, rfl, ?_⟩) | refine CallI.byR (CallR.mk ⟨[.d (.fp 6 (encDk D))], _, And.intro ⟨6, _, by with_unfolding_all exact rfl, Nat.le_refl _, rfl, rfl⟩ trivial, hm1, rfl, ?_⟩)) | ((with_reducible refine spl_id ?_); refine Spl.no (by rw [hib]; first | (rw [hcb2]; rfl) | (rw [show cb = false by simpa using hcb2]; rfl)) ?_)|(with_reducible first|refine gB ?_|refine gZ (fun x hx hu=>?_)|refine gY (fun x hx=>?_)|refine gE ?_|refine Both.mk ?_ ?_|refine gS (fun h=>?_) (fun h=>?_)|refine Spl.nt ?_|refine Spl.mk (fun h=>?_) (fun h=>?_))))
        all_goals first | rfl | (exfalso; omega)
      · rw [decide_eq_false hM] at hm0
        have hx := mend_not (dskD m ws) hOK hM
        generalize dskD m ws = d at *
        refine FnC.intro ti_ok Tryz.func3 rfl Tryz.ntmps3 Tryz.call3 rfl (Nat.le_of_ble_eq_true rfl) rfl ?_
        (repeat' ((conv=>whnf);first|with_reducible refine gA ?_|((with_reducible refine callE_id ?_); first | (refine CallE.con ⟨_, hk, ?_⟩) | (refine CallE.con ⟨_, n8, ?_⟩) | (refine CallE.con ⟨_, n0, ?_⟩) | refine CallE.inl ?_) | ((with_reducible refine callI_id ?_); first | refine CallI.byH hd [] (by with_unfolding_all exact rfl) ⟨rfl, by decide, rfl⟩ trivial rfl rfl ?_ | refine CallI.byH hL0 [8, 9, 10] (by with_unfolding_all exact rfl) ⟨rfl, by decide, by with_unfolding_all exact rfl⟩ (And.intro rfl (And.intro rfl (And.intro rfl trivial))) rfl rfl ?_ | refine CallI.byH hx [8, 9, 10] (by with_unfolding_all exact rfl) ⟨rfl, by decide, by with_unfolding_all exact rfl⟩ (And.intro rfl (And.intro rfl (And.intro rfl trivial))) rfl rfl ?_ | refine CallI.byR (CallR.mk ⟨[.d (.fp 6 (encDk d))], _, And.intro ⟨6, _, by with_unfolding_all exact rfl, Nat.le_refl _, rfl, rfl⟩ trivial, hc0, rfl, ?_⟩) | refine CallI.byR (CallR.mk ⟨[.d (.fp 6 (encDk d))], _, And.intro ⟨6, _, by with_unfolding_all exact rfl, Nat.le_refl _, rfl, rfl⟩ trivial, hm0, rfl, ?_⟩))|(with_reducible first|refine gB ?_|refine gZ (fun x hx hu=>?_)|refine gY (fun x hx=>?_)|refine gE ?_|refine Both.mk ?_ ?_|refine gS (fun h=>?_) (fun h=>?_)|refine Spl.nt ?_|refine Spl.mk (fun h=>?_) (fun h=>?_))))
        exact bl_eq (by simp)
    · have kd := disk_ok m hm ws hw (by omega) (by omega)
      rw [show dskOf m ws = none from if_neg hz] at kd
      have kd : FnC Tryz.prog 6 [.d (encM m), .d (.fs 36 (ws.map encW))] (.d (.ot (.pointer none))) := kd
      have kl := log_nil
      have kc : FnC Tryz.prog 8 [.d (.ot (.pointer none))] (.d (.bl (decide (probsD none = [])))) := clean_ok none trivial
      have km : FnC Tryz.prog 9 [.d (.ot (.pointer none))] (.d (.bl (decide (mntP (imgD none))))) := mounted_ok none trivial
      rw [decide_eq_false (by intro h; exact absurd h.1 (by decide))] at km
      have kx := mend_nil
      generalize decide (probsD none = []) = cb at kc
      refine FnC.intro ti_ok Tryz.func3 rfl Tryz.ntmps3 Tryz.call3 rfl (Nat.le_of_ble_eq_true rfl) rfl ?_
      (repeat' ((conv=>whnf);first|with_reducible refine gA ?_|((with_reducible refine callE_id ?_); first | (refine CallE.con ⟨_, hk, ?_⟩) | (refine CallE.con ⟨_, n8, ?_⟩) | (refine CallE.con ⟨_, n0, ?_⟩) | (refine CallE.con ⟨_, kd, ?_⟩) | (refine CallE.con ⟨_, kl, ?_⟩) | (refine CallE.con ⟨_, kc, ?_⟩) | (refine CallE.con ⟨_, km, ?_⟩) | (refine CallE.con ⟨_, kx, ?_⟩))|(with_reducible first|refine gB ?_|refine gZ (fun x hx hu=>?_)|refine gY (fun x hx=>?_)|refine gE ?_|refine Both.mk ?_ ?_|refine gS (fun h=>?_) (fun h=>?_)|refine Spl.nt ?_|refine Spl.mk (fun h=>?_) (fun h=>?_))))
      rfl
  · refine FnC.intro ti_ok Tryz.func3 rfl Tryz.ntmps3 Tryz.call3 rfl (Nat.le_of_ble_eq_true rfl) rfl ?_
    by_cases h1 : m.length ≤ 200
    all_goals (repeat' ((conv=>whnf);first|with_reducible refine gA ?_|((with_reducible refine callE_id ?_); (refine CallE.con ⟨_, hk, ?_⟩))|(with_reducible first|refine gB ?_|refine gZ (fun x hx hu=>?_)|refine gY (fun x hx=>?_)|refine gE ?_|refine Both.mk ?_ ?_|refine gS (fun h=>?_) (fun h=>?_)|refine Spl.nt ?_|refine Spl.mk (fun h=>?_) (fun h=>?_))))
    all_goals first | rfl | (exfalso; omega)
end Go.Proofs.YtboohandlmnjkaaGreatDoor

/- The card. Conditions: none. -/
namespace Go.Proofs.YtboohandlmnjkaaGreatDoor
open Go.Sy Go.ChangeShapes Go.WideShapes Go.ChangeAt Go.RowKit
set_option maxRecDepth 100000
set_option linter.all false
def plainT : List Nat := [5, 41, 22, 3, 43, 45, 23]
theorem closed : closedB ti plainT = true := by decide +kernel
theorem shp_byte {n : Nat} {ds : List D} (h : Shp ti n 5 ds) : ∃ b : UInt8, ds = [.it .u8 b.toNat] := by
  match n, h with
  | n + 1, h =>
    obtain ⟨z, rfl, h1, h2⟩ := h
    have h1' : (0 : Int) ≤ z := h1
    have h2' : z ≤ 255 := h2
    refine ⟨by8e z, ?_⟩
    rw [by8e_ok (by omega)]
theorem shp_bytes {n : Nat} : ∀ {m : Nat} {ds : List D}, ShpN (Shp ti n 5) m ds → ∃ s : List UInt8, s.length = m ∧ ds = encS s
  | 0, ds, h => ⟨[], rfl, h⟩
  | m + 1, ds, h => by
    obtain ⟨a, b, rfl, h1, h2⟩ := h
    obtain ⟨c, rfl⟩ := shp_byte h1
    obtain ⟨s, hs, rfl⟩ := shp_bytes h2
    exact ⟨c :: s, by simp [hs], rfl⟩
theorem shp_sec {n : Nat} {ds : List D} (h : Shp ti n 41 ds) : ∃ s : List UInt8, s.length = 32 ∧ ds = encS s := by
  match n, h with
  | n + 1, h => exact shp_bytes (n := n) (m := 32) h
theorem shp_secs {n : Nat} : ∀ {es : List (List D)}, (∀ x ∈ es, Shp ti n 41 x) → ∃ m : List (List UInt8), ImOK m ∧ es = m.map encS
  | [], _ => ⟨[], (fun s hs => by cases hs), rfl⟩
  | x :: es, h => by
    obtain ⟨s, hs, rfl⟩ := shp_sec (h x List.mem_cons_self)
    obtain ⟨m, hm, rfl⟩ := shp_secs (fun y hy => h y (List.mem_cons_of_mem _ hy))
    refine ⟨s :: m, fun t ht => ?_, rfl⟩
    rcases List.mem_cons.1 ht with rfl | ht
    · exact hs
    · exact hm t ht
theorem shp_img {n : Nat} {x : D} (h : Shp ti n 22 [x]) : ∃ m : List (List UInt8), ImOK m ∧ x = encM m := by
  match n, h with
  | n + 1, h =>
    obtain ⟨es, hl, _, he⟩ := h
    obtain ⟨m, hm, rfl⟩ := shp_secs he
    exact ⟨m, hm, by simpa using hl⟩
theorem shp_int {n : Nat} {ds : List D} (h : Shp ti n 3 ds) : ∃ z : Int, ds = [.it .i64 z] := by
  match n, h with
  | n + 1, h =>
    obtain ⟨z, rfl, _⟩ := h
    exact ⟨z, rfl⟩
theorem shp_wr {n : Nat} {ds : List D} (h : Shp ti n 45 ds) : ∃ w : Wr, w.s.length = 32 ∧ ds = encW w := by
  match n, h with
  | n + 1, h =>
    obtain ⟨a, b, rfl, ha, c, d, rfl, hc, e, f, rfl, he, g, q, rfl, hg, rfl⟩ := h
    obtain ⟨za, rfl⟩ := shp_int ha
    obtain ⟨s, hs, rfl⟩ := shp_sec hc
    obtain ⟨ze, rfl⟩ := shp_int hg
    match n, he with
    | n + 1, he =>
      obtain ⟨k, i, rfl, hk, j, r, rfl, hj, rfl⟩ := he
      obtain ⟨zk, rfl⟩ := shp_int hk
      obtain ⟨zj, rfl⟩ := shp_int hj
      exact ⟨⟨za, s, zk, zj, ze⟩, hs, by simp [encW]⟩
theorem shp_wrs {n : Nat} : ∀ {es : List (List D)}, (∀ x ∈ es, Shp ti n 45 x) → ∃ l : List Wr, WsOK l ∧ es = l.map encW
  | [], _ => ⟨[], (fun s hs => by cases hs), rfl⟩
  | x :: es, h => by
    obtain ⟨s, hs, rfl⟩ := shp_wr (h x List.mem_cons_self)
    obtain ⟨m, hm, rfl⟩ := shp_wrs (fun y hy => h y (List.mem_cons_of_mem _ hy))
    refine ⟨s :: m, fun t ht => ?_, rfl⟩
    rcases List.mem_cons.1 ht with rfl | ht
    · exact hs
    · exact hm t ht
theorem shp_ws {n : Nat} {x : D} (h : Shp ti n 23 [x]) : ∃ l : List Wr, WsOK l ∧ x = .fs 36 (l.map encW) := by
  match n, h with
  | n + 1, h =>
    obtain ⟨es, hl, _, he⟩ := h
    obtain ⟨m, hm, rfl⟩ := shp_wrs he
    exact ⟨m, hm, by simpa using hl⟩
theorem own : ownKnob Tryz.prog.godebug = none := by kernel_rfl
theorem laidOut : laidOutB Tryz.prog = true := by kernel_rfl

namespace tells
/-- For every argument and every world. -/
theorem contract (H : Type) (enc : TypeId × Value → H) (W : World) (base : Nat) (args : Array Value) (ds gs : List (DataW H)) (before : List MemPlace)
    (hval : ∀ (j : Nat) t v, Tryz.f3.params[j]? = some t → args[j]? = some v → Value.okWide Tryz.prog W .any base t v)
    (hW : DataW.Whole enc Tryz.prog Tryz.f3.params.toList Rows.mendCleansSpec.vars false W args.toList ds gs before) :
    Calls Tryz.prog 3 args W fun e W' => ∃ v, e = .returned v ∧ Rows.mendCleansSpec.post enc Tryz.prog Tryz.f3 false true false false W args v W' := by
  have hW' := hW
  obtain ⟨p, q, hA, hV, rfl, _, _⟩ := hW
  have hA' : DataW.TrodAll enc Tryz.prog W 0 (fun _ => true) true [22, 23] args.toList ds p := hA
  obtain ⟨v0, _, d0, _, p0, _, e0, rfl, _, h0, hA1⟩ := trodAll_cons hA'
  obtain ⟨v1, _, d1, _, p1, _, rfl, rfl, _, h1, hA2⟩ := trodAll_cons hA1
  obtain ⟨rfl, rfl, _⟩ := trodAll_nil hA2
  obtain rfl : args = #[v0, v1] := by cases args; simp_all
  obtain ⟨rfl, rfl⟩ := trodVars_none hV
  obtain ⟨n0, x0, s0, a0⟩ := arg_one ti_ok closed (t := 22) (by decide) (ty := _) rfl rfl (hval 0 22 v0 rfl rfl) h0
  obtain ⟨n1, x1, s1, a1⟩ := arg_one ti_ok closed (t := 23) (by decide) (ty := _) rfl rfl (hval 1 23 v1 rfl rfl) h1
  obtain ⟨m, hm, rfl⟩ := shp_img s0
  obtain ⟨ws, hw, rfl⟩ := shp_ws s1
  refine (FnC.enter (law38_ok m hm ws hw) (Tryz.call3 _ _) rfl ?_).mono ?_
  · intro j hj
    match j, hj with
    | 0, _ => exact a0
    | 1, _ => exact a1
  · rintro e W' ⟨rfl, hB⟩
    exact ⟨_, rfl, law_post hW' rfl rfl rfl rfl rfl Tryz.underlying4 laidOut (by decide +kernel) hB⟩

noncomputable def wit : Array Value := #[.slice none 0 0, .slice none 0 0]
noncomputable def laidWorld (os : Os) : World :=
  { World.holding Tryz.prog os ⟨#[], #[], []⟩ with heap := laidHeap (World.holding Tryz.prog os ⟨#[], #[], []⟩).heap [(1, Rows.laid_unicode_utf8_acceptRanges), (0, Rows.laid_unicode_utf8_first)] }
theorem laid_met (os : Os) : laidMet Tryz.prog Rows.mendCleansRow.laid ((laidWorld os).forCall (fun _ _ => 0) ⟨#[], wit, []⟩).memory :=
  laidMet_of_run' 8 (by kernel_rfl) (by kernel_rfl)
theorem reads (os : Os) {H : Type} (enc : TypeId × Value → H) : ∃ places, DataW.whole enc Tryz.prog ((laidWorld os).forCall (fun _ _ => 0) ⟨#[], wit, []⟩).memory Tryz.f3.params.toList Rows.mendCleansSpec.vars false wit.toList 8 = some ([.nil, .nil], [], places) :=
  ⟨[], by kernel_rfl⟩

theorem lifted (os : Os) (started : os.Started) (H : Type) (enc : TypeId × Value → H) (F : Stop.Interp) :
    ReturnsInHanded {} Tryz.checked os 3 .any ((OpenSpec.ofChange Rows.mendCleansSpec).preRow enc Tryz.prog Tryz.f3 Rows.mendCleansRow.domain false Rows.mendCleansRow.laid) (((OpenSpec.ofChange Rows.mendCleansSpec).at F).post enc Tryz.prog Tryz.f3 false true false false) := by
  obtain ⟨places, hx⟩ := reads os enc
  refine returnsInHanded_of_row (C := Tryz.checked) (s := OpenSpec.ofChange Rows.mendCleansSpec) own started (by kernel_rfl) Tryz.func3
    (witness_row_at (enc := enc) (C := Tryz.checked) false (laidWorld os) wit rfl (by kernel_rfl) (by kernel_rfl) (by kernel_rfl)
      (OpenSpec.preRow_of_cond 8 hx (by kernel_rfl) (fun k hk => by cases hk) (by kernel_rfl) (laid_met os))) ?_
  intro W base args ds gs before hval hW _ _ _ _ _ _
  exact contract H enc W base args ds gs before hval hW

theorem said : Rows.MendCleansSaid :=
  OpenClaim.holds_of_cond 3 Tryz.f3 rfl rfl rfl rfl rfl rfl rfl ⟨rfl, rfl, rfl, rfl, rfl⟩ rfl rfl rfl rfl rfl (by kernel_rfl) Tryz.func3 (by kernel_rfl)
    (of_decide_eq_true (by kernel_rfl)) (by unfold Func.isWrapper; first | (rw [if_pos (by decide +kernel)]; kernel_rfl) | (rw [if_neg (by decide +kernel)]; exact ⟨rfl, rfl⟩))
    (fun os started H enc _ F => by rw [OpenClaim.pre_eq_preRow]; exact lifted os started H enc F)

theorem plain (f : FuncId) (fn : Func) (hf : Tryz.pinned.checked.prog.funcNamed "flotsam/flotsamlaw38.MendCleans" = some f) (hfn : Tryz.pinned.checked.prog.funcs[f]? = some fn) :
    false = Tryz.pinned.checked.prog.looks [] ∧ ∀ (j : Nat) t, fn.params[j]? = some t → Tryz.pinned.checked.prog.wantsStandIn t = false := by
  obtain rfl : f = 3 := Option.some.inj ((show Tryz.prog.funcNamed "flotsam/flotsamlaw38.MendCleans" = some 3 by kernel_rfl).symm.trans hf) |>.symm
  obtain rfl : fn = Tryz.f3 := (Option.some.inj (Tryz.func3.symm.trans hfn)).symm
  refine ⟨by kernel_rfl, fun j t ht => ?_⟩
  have hall : ∀ t ∈ Tryz.f3.params, Tryz.prog.wantsStandIn t = false := by decide +kernel
  exact hall t (Array.mem_of_getElem? ht)

/-- The card. -/
theorem card : Rows.MendCleansCardSaid :=
  Claim7.holds_tied_plain_at .later [] _ _ _ _ said (fun _ h => by cases h) (by kernel_rfl) (fun _ h => by cases h) mendCleans_row_tie rfl ⟨rfl, rfl⟩ (by kernel_rfl) rfl plain (by kernel_rfl)
end tells
end Go.Proofs.YtboohandlmnjkaaGreatDoor
