/- Contracts of the functions that the law reaches, and the law. Conditions: none. -/
import Derived.Test.YtmfokpfddponjaaGreatDoorKC
import Derived.Test.YtmfokpfddponjaaGreatDoorSD
set_option maxRecDepth 100000
set_option linter.all false
namespace Go.Proofs.YtmfokpfddponjaaGreatDoor
open Go.Sy
def stepR (kd : Int → Int) (R : List Bool) (x : Ent) : List Bool :=
 if x.u = true ∧ R.getD x.p.toNat false = true ∧ kd x.p = 2 ∧ kd x.t ≠ 0 then R.set x.t.toNat true else R
def passR (kd : Int → Int) (E : List Ent) (R : List Bool) : List Bool := E.foldl (stepR kd) R
def iterR (kd : Int → Int) (E : List Ent) : Nat → List Bool → List Bool
 | 0, R => R
 | n + 1, R => iterR kd E n (passR kd E R)
def cntR (R : List Bool) : Nat := R.countP (fun b => b)
theorem cntR_set : ∀ (R : List Bool) (i : Nat), i < R.length → R.getD i false = false → cntR (R.set i true) = cntR R + 1
 | [], i, h, _ => by cases h
 | b :: R, 0, _, h => by
  have h : b = false := h
  subst h
  simp [cntR]
 | b :: R, i + 1, h, h2 => by
  have ih := cntR_set R i (by simpa using h) (by simpa [List.getD] using h2)
  unfold cntR at ih ⊢
  rw [List.set_cons_succ, List.countP_cons, List.countP_cons, ih]; omega
theorem set_same : ∀ (R : List Bool) (i : Nat), R.getD i false = true → R.set i true = R
 | [], i, _ => rfl
 | b :: R, 0, h => by
  have h : b = true := h
  subst h; rfl
 | b :: R, i + 1, h => by rw [List.set_cons_succ, set_same R i (by simpa [List.getD] using h)]
theorem set_out (R : List Bool) (i : Nat) (h : R.length ≤ i) : R.set i true = R := List.set_eq_of_length_le h
def turnsR (kd : Int → Int) (R : List Bool) (x : Ent) : Prop := x.u = true ∧ R.getD x.p.toNat false = true ∧ kd x.p = 2 ∧ kd x.t ≠ 0 ∧ R.getD x.t.toNat false = false ∧ x.t.toNat < R.length
instance (kd : Int → Int) (R : List Bool) (x : Ent) : Decidable (turnsR kd R x) := by unfold turnsR; infer_instance
theorem stepR_len (kd : Int → Int) (R : List Bool) (x : Ent) : (stepR kd R x).length = R.length := by unfold stepR; split <;> simp
theorem stepR_yes {kd : Int → Int} {R : List Bool} {x : Ent} (h : turnsR kd R x) : stepR kd R x = R.set x.t.toNat true ∧ cntR (stepR kd R x) = cntR R + 1 := by
 obtain ⟨h1, h2, h3, h4, h5, h6⟩ := h
 have e : stepR kd R x = R.set x.t.toNat true := if_pos ⟨h1, h2, h3, h4⟩
 exact ⟨e, by rw [e]; exact cntR_set R _ h6 h5⟩
theorem stepR_no {kd : Int → Int} {R : List Bool} {x : Ent} (h : ¬ turnsR kd R x) : stepR kd R x = R := by
 unfold stepR
 split
 ·rename_i h1
  rcases Nat.lt_or_ge x.t.toNat R.length with h6 | h6
  ·cases hb : R.getD x.t.toNat false with
   | true => exact set_same R _ hb
   | false => exact (h ⟨h1.1, h1.2.1, h1.2.2.1, h1.2.2.2, hb, h6⟩).elim
  ·exact set_out R _ h6
 ·rfl
theorem stepR_cnt (kd : Int → Int) (R : List Bool) (x : Ent) : cntR R ≤ cntR (stepR kd R x) := by
 by_cases h : turnsR kd R x
 ·rw [(stepR_yes h).2]; omega
 ·rw [stepR_no h]; exact Nat.le_refl _
theorem passR_len (kd : Int → Int) : ∀ (E : List Ent) (R : List Bool), (passR kd E R).length = R.length
 | [], R => rfl
 | x :: E, R => by
  show (passR kd E (stepR kd R x)).length = _
  rw [passR_len kd E, stepR_len]
theorem passR_cnt (kd : Int → Int) : ∀ (E : List Ent) (R : List Bool), cntR R ≤ cntR (passR kd E R)
 | [], R => Nat.le_refl _
 | x :: E, R => Nat.le_trans (stepR_cnt kd R x) (passR_cnt kd E (stepR kd R x))
theorem passR_snoc (kd : Int → Int) {E : List Ent} {k : Nat} {x : Ent} (h : E[k]? = some x) (R : List Bool) : passR kd (E.take (k + 1)) R = stepR kd (passR kd (E.take k) R) x := by
 unfold passR
 rw [List.take_add_one, h, List.foldl_append]; rfl
theorem cntR_le (R : List Bool) : cntR R ≤ R.length := List.countP_le_length
theorem iterR_add (kd : Int → Int) (E : List Ent) : ∀ (n m : Nat) (R : List Bool), iterR kd E (n + m) R = iterR kd E m (iterR kd E n R)
 | 0, m, R => by rw [Nat.zero_add]; rfl
 | n + 1, m, R => by
  rw [show n + 1 + m = (n + m) + 1 by omega]
  exact iterR_add kd E n m (passR kd E R)
theorem iterR_fix (kd : Int → Int) (E : List Ent) {R : List Bool} (h : passR kd E R = R) : ∀ n, iterR kd E n R = R
 | 0 => rfl
 | n + 1 => by show iterR kd E n (passR kd E R) = R; rw [h]; exact iterR_fix kd E h n
theorem iterR_len (kd : Int → Int) (E : List Ent) : ∀ (n : Nat) (R : List Bool), (iterR kd E n R).length = R.length
 | 0, R => rfl
 | n + 1, R => by show (iterR kd E n (passR kd E R)).length = _; rw [iterR_len kd E n, passR_len]
def R0 : List Bool := true :: List.replicate 15 false
def reachR (kd : Int → Int) (E : List Ent) : List Bool := iterR kd E 16 R0
theorem reach_at (kd : Int → Int) (E : List Ent) {j : Nat} (hj : j ≤ 16) (h : passR kd E (iterR kd E j R0) = iterR kd E j R0) : iterR kd E j R0 = reachR kd E := by
 unfold reachR
 rw [show 16 = j + (16 - j) by omega, iterR_add, iterR_fix kd E h]
def blks (x : Ino) : List Int := [x.b0, x.b1, x.b2, x.b3]
def prbK (P : Nat → Nat → Bool) (q : Nat) : List (Int × Int) := ((List.range q).filter fun j => P (j / 24 + 1) (j % 24)).map fun j => (((j / 24 + 1 : Nat) : Int), ((j % 24 : Nat) : Int))
def prbB (own : Nat → Nat) (q : Nat) : List (Int × Int) := ((List.range q).filter fun j => decide (1 < own (j + 1))).map fun j => (6, ((j + 1 : Nat) : Int))
theorem prbK_yes {P : Nat → Nat → Bool} {i k : Nat} (hk : k < 24) (h : P (i + 1) k = true) : prbK P (24 * i + (k + 1)) = prbK P (24 * i + k) ++ [(((i + 1 : Nat) : Int), (k : Int))] := by
 unfold prbK
 rw [show 24 * i + (k + 1) = (24 * i + k) + 1 by omega, List.range_succ, List.filter_append, List.map_append]
 have e1 : (24 * i + k) / 24 = i := by omega
 have e2 : (24 * i + k) % 24 = k := by omega
 have e3 : (24 * (i : Int) + k) / 24 = i := by omega
 have e4 : (k : Int) % 24 = k := by omega
 simp [e1, e2, e3, e4, h]
theorem prbK_no {P : Nat → Nat → Bool} {i k : Nat} (hk : k < 24) (h : P (i + 1) k = false) : prbK P (24 * i + (k + 1)) = prbK P (24 * i + k) := by
 unfold prbK
 rw [show 24 * i + (k + 1) = (24 * i + k) + 1 by omega, List.range_succ, List.filter_append, List.map_append]
 have e1 : (24 * i + k) / 24 = i := by omega
 have e2 : (24 * i + k) % 24 = k := by omega
 simp [e1, e2, h]
theorem prbB_yes {own : Nat → Nat} {k : Nat} (h : 1 < own (k + 1)) : prbB own (k + 1) = prbB own k ++ [(6, ((k + 1 : Nat) : Int))] := by
 unfold prbB
 rw [List.range_succ, List.filter_append, List.map_append]
 simp [h]
theorem prbB_no {own : Nat → Nat} {k : Nat} (h : ¬ 1 < own (k + 1)) : prbB own (k + 1) = prbB own k := by
 unfold prbB
 rw [List.range_succ, List.filter_append, List.map_append]
 simp [h]
theorem prbK_len (P : Nat → Nat → Bool) (q : Nat) : (prbK P q).length ≤ q := by
 unfold prbK
 rw [List.length_map]
 exact Nat.le_trans (List.length_filter_le _ _) (by rw [List.length_range]; exact Nat.le_refl _)
theorem prbB_len (own : Nat → Nat) (q : Nat) : (prbB own q).length ≤ q := by
 unfold prbB
 rw [List.length_map]
 exact Nat.le_trans (List.length_filter_le _ _) (by rw [List.length_range]; exact Nat.le_refl _)
end Go.Proofs.YtmfokpfddponjaaGreatDoor
namespace Go.Proofs.YtmfokpfddponjaaGreatDoor
open Go.Sy
theorem splice {α : Type} (pre M post l : List α) (j : Nat) (h : j + l.length ≤ M.length) :
  (pre ++ M ++ post).take (pre.length + j) ++ l ++ (pre ++ M ++ post).drop (pre.length + j + l.length) = pre ++ (M.take j ++ l ++ M.drop (j + l.length)) ++ post := by
 have e1 : (pre ++ M ++ post).take (pre.length + j) = pre ++ M.take j := by
  rw [List.append_assoc, List.take_append, List.take_of_length_le (by omega), List.take_append]
  rw [show pre.length + j - pre.length = j by omega, show j - M.length = 0 by omega]
  simp
 have e2 : (pre ++ M ++ post).drop (pre.length + j + l.length) = M.drop (j + l.length) ++ post := by
  rw [List.append_assoc, List.drop_append, List.drop_eq_nil_of_le (by omega), List.nil_append, List.drop_append]
  rw [show pre.length + j + l.length - pre.length = j + l.length by omega, show j + l.length - M.length = 0 by omega]
  simp
 rw [e1, e2]
 simp only [List.append_assoc]
theorem fm_len {α β : Type} {enc : α → List β} {sz : Nat} (h : ∀ x, (enc x).length = sz) : ∀ L : List α, (L.flatMap enc).length = L.length * sz
 | [] => by simp
 | x :: L => by rw [List.flatMap_cons, List.length_append, h, fm_len h L, List.length_cons, Nat.add_mul]; omega
theorem fm_take {α β : Type} {enc : α → List β} {sz : Nat} (h : ∀ x, (enc x).length = sz) : ∀ (L : List α) (i : Nat), (L.flatMap enc).take (i * sz) = (L.take i).flatMap enc
 | [], i => by simp
 | x :: L, 0 => by simp
 | x :: L, i + 1 => by
  rw [List.take_succ_cons, List.flatMap_cons, List.flatMap_cons, Nat.add_mul, Nat.one_mul, List.take_append, List.take_of_length_le (by rw [h]; omega), h, show i * sz + sz - sz = i * sz by omega, fm_take h L i]
theorem fm_drop {α β : Type} {enc : α → List β} {sz : Nat} (h : ∀ x, (enc x).length = sz) : ∀ (L : List α) (i : Nat), (L.flatMap enc).drop (i * sz) = (L.drop i).flatMap enc
 | [], i => by simp
 | x :: L, 0 => by simp
 | x :: L, i + 1 => by
  rw [List.drop_succ_cons, List.flatMap_cons, Nat.add_mul, Nat.one_mul, List.drop_append, List.drop_eq_nil_of_le (by rw [h]; omega), h, show i * sz + sz - sz = i * sz by omega, fm_drop h L i, List.nil_append]
theorem fm_set {α β : Type} {enc : α → List β} {sz : Nat} (h : ∀ x, (enc x).length = sz) (L : List α) (i : Nat) (x : α) (hi : i < L.length) :
  (L.flatMap enc).take (i * sz) ++ enc x ++ (L.flatMap enc).drop (i * sz + (enc x).length) = (L.set i x).flatMap enc := by
 rw [h, show i * sz + sz = (i + 1) * sz by rw [Nat.add_mul]; omega, fm_take h, fm_drop h, List.set_eq_take_append_cons_drop, if_pos hi, List.flatMap_append, List.flatMap_cons, List.append_assoc]
theorem fm_at {α β : Type} {enc : α → List β} {sz : Nat} (h : ∀ x, (enc x).length = sz) (pre post : List β) (L : List α) (i : Nat) (x : α) (hx : L[i]? = some x) :
  ((pre ++ L.flatMap enc ++ post).drop (pre.length + i * sz)).take sz = enc x := by
 have hi := (List.getElem?_eq_some_iff.1 hx).1
 have e2 : (pre ++ L.flatMap enc ++ post).drop (pre.length + i * sz) = (L.drop i).flatMap enc ++ post := by
  rw [List.append_assoc, List.drop_append, List.drop_eq_nil_of_le (by omega), List.nil_append, List.drop_append]
  rw [show pre.length + i * sz - pre.length = i * sz by omega, fm_drop h]
  have : i * sz - (L.flatMap enc).length = 0 := by
   rw [fm_len h]
   have := Nat.mul_le_mul_right sz (Nat.le_of_lt hi)
   omega
  rw [this]; simp
 have e3 : L.drop i = x :: L.drop (i + 1) := by
  rw [List.drop_eq_getElem_cons hi, (List.getElem?_eq_some_iff.1 hx).2]
 rw [e2, e3, List.flatMap_cons, List.append_assoc, List.take_append_of_le_length (by rw [h]; omega), List.take_of_length_le (by rw [h]; omega)]
theorem fm_setM {α β : Type} {enc : α → List β} {sz : Nat} (h : ∀ x, (enc x).length = sz) (pre post : List β) (L : List α) (i : Nat) (x : α) (hi : i < L.length) {a b : Nat} (ha : a = pre.length + i * sz) (hb : b = a + sz) :
  (pre ++ L.flatMap enc ++ post).take a ++ enc x ++ (pre ++ L.flatMap enc ++ post).drop b = pre ++ (L.set i x).flatMap enc ++ post := by
 subst ha hb
 have hl : i * sz + (enc x).length ≤ (L.flatMap enc).length := by
  rw [fm_len h, h]
  have := Nat.mul_le_mul_right sz hi
  rw [Nat.succ_mul] at this; exact this
 have := splice pre (L.flatMap enc) post (enc x) (i * sz) hl
 rw [fm_set h L i x hi, h] at this
 exact this
end Go.Proofs.YtmfokpfddponjaaGreatDoor
namespace Go.Proofs.YtmfokpfddponjaaGreatDoor
open Go.Sy
def encX (d : Option Dk) (I : List Ino) (E : List Ent) (R : List Bool) : List D := [encD d] ++ I.flatMap encI ++ E.flatMap encE ++ R.flatMap fun b => [D.bl b]
theorem encI_len (x : Ino) : (encI x).length = 6 := rfl
theorem encE_len (x : Ent) : (encE x).length = 4 := rfl
structure XOK (I : List Ino) (E : List Ent) (R : List Bool) : Prop where
 i : I.length = 16
 e : E.length = 24
 r : R.length = 16
 p : ∀ x ∈ E, x.u = true → 0 ≤ x.p ∧ x.p < 16 ∧ 1 ≤ x.t ∧ x.t < 16
section
variable {d : Option Dk} {I : List Ino} {E : List Ent} {R : List Bool}
theorem x_len (h : XOK I E R) : (encX d I E R).length = 209 := by
 unfold encX
 simp only [List.length_append, fm_len encI_len, fm_len encE_len, fm_len (enc := fun b => [D.bl b]) (sz := 1) (fun _ => rfl), h.i, h.e, h.r]; rfl
theorem x_d1 : (encX d I E R).drop 1 = I.flatMap encI ++ E.flatMap encE ++ R.flatMap fun b => [D.bl b] := rfl
theorem x_d97 (h : XOK I E R) : (encX d I E R).drop 97 = E.flatMap encE ++ R.flatMap fun b => [D.bl b] := by
 unfold encX
 rw [List.append_assoc, List.drop_append, List.drop_eq_nil_of_le (by simp [fm_len encI_len, h.i]), List.nil_append]
 simp [fm_len encI_len, h.i]
theorem x_d193 (h : XOK I E R) : (encX d I E R).drop 193 = R.flatMap fun b => [D.bl b] := by
 unfold encX
 rw [List.drop_append, List.drop_eq_nil_of_le (by simp [fm_len encI_len, fm_len encE_len, h.i, h.e]), List.nil_append]
 simp [fm_len encI_len, fm_len encE_len, h.i, h.e]
theorem at_R {n : Int} {b : Bool} (hb : R[n.toNat]? = some b) : ((R.flatMap fun b => [D.bl b]).drop (n.toNat * 1)).take 1 = [.bl b] := by
 have := fm_at (enc := fun b => [D.bl b]) (sz := 1) (fun _ => rfl) [] [] R n.toNat b hb
 simpa using this
theorem at_I {n : Int} {x : Ino} (hx : I[n.toNat]? = some x) : ((I.flatMap encI ++ E.flatMap encE ++ R.flatMap fun b => [D.bl b]).drop (n.toNat * 6)).take 6 = encI x := by
 have := fm_at encI_len [] (E.flatMap encE ++ R.flatMap fun b => [D.bl b]) I n.toNat x hx
 simpa using this
theorem at_E {n : Int} {x : Ent} (hx : E[n.toNat]? = some x) : ((E.flatMap encE ++ R.flatMap fun b => [D.bl b]).drop (n.toNat * 4)).take 4 = encE x := by
 have := fm_at encE_len [] (R.flatMap fun b => [D.bl b]) E n.toNat x hx
 simpa using this
end
def sndP (I : List Ino) (R : List Bool) (x : Ent) : Prop := x.u = true ∧ R.getD x.p.toNat false = true ∧ (I.getD x.p.toNat ino0).k = 2
instance (I : List Ino) (R : List Bool) (x : Ent) : Decidable (sndP I R x) := by unfold sndP; infer_instance
set_option maxHeartbeats 8000000 in
theorem sound_ok {d : Option Dk} {I : List Ino} {E : List Ent} {R : List Bool} (h : XOK I E R) {x : Ent} (hx : x ∈ E) : FnC Tryz.prog 119 [.d (.fp 209 (encX d I E R)), .dg 4 (encE x)] (.d (.bl (decide (sndP I R x)))) := by
 have h193 := x_d193 (d := d) h
 cases hu : x.u with
 | false =>
  have hxe : encE x = [.bl false, .it .i64 x.p, .st x.n, .it .i64 x.t] := by rw [encE, hu]
  rw [hxe]
  refine FnC.intro ti_ok Tryz.func119 rfl Tryz.ntmps119 Tryz.call119 rfl (Nat.le_of_ble_eq_true rfl) rfl ?_
  (repeat' ((conv=>whnf);first|with_reducible refine gA ?_|(with_reducible first|refine gB ?_|refine gZ (fun x hx hu=>?_)|refine gY (fun x hx=>?_)|refine gE ?_|refine Both.mk ?_ ?_|refine gS (fun h=>?_) (fun h=>?_)|refine Spl.nt ?_|refine Spl.mk (fun h=>?_) (fun h=>?_))))
  exact bl_ff (fun q => by rw [q.1] at hu; cases hu)
 | true =>
  have hxe : encE x = [.bl true, .it .i64 x.p, .st x.n, .it .i64 x.t] := by rw [encE, hu]
  rw [hxe]
  obtain ⟨p1, p2, _, _⟩ := h.p x hx hu
  obtain ⟨r, hr⟩ := lt_get (l := R) (k := x.p.toNat) (by rw [h.r]; omega)
  obtain ⟨y, hy⟩ := lt_get (l := I) (k := x.p.toNat) (by rw [h.i]; omega)
  have hP : sndP I R x ↔ r = true ∧ y.k = 2 := by
   unfold sndP
   rw [List.getD_eq_getElem?_getD, hr, List.getD_eq_getElem?_getD, hy]
   exact ⟨fun q => q.2, fun q => ⟨hu, q⟩⟩
  have hR := at_R hr
  have hI := at_I (E := E) (R := R) hy
  cases r with
  | false =>
   refine FnC.intro ti_ok Tryz.func119 rfl Tryz.ntmps119 Tryz.call119 rfl (Nat.le_of_ble_eq_true rfl) rfl ?_
   (repeat' ((conv=>whnf);first|with_reducible refine gA ?_|((with_reducible refine atD_id ?_); first | refine AtD.eq h193 ?_ | refine AtD.eq hR ?_ | refine AtD.eq hI ?_ | refine AtD.now ?_)|(with_reducible first|refine gB ?_|refine gZ (fun x hx hu=>?_)|refine gY (fun x hx=>?_)|refine gE ?_|refine Both.mk ?_ ?_|refine gS (fun h=>?_) (fun h=>?_)|refine Spl.nt ?_|refine Spl.mk (fun h=>?_) (fun h=>?_))))
   exact bl_ff (fun q => by have := (hP.1 q).1; cases this)
  | true =>
   refine FnC.intro ti_ok Tryz.func119 rfl Tryz.ntmps119 Tryz.call119 rfl (Nat.le_of_ble_eq_true rfl) rfl ?_
   (repeat' ((conv=>whnf);first|with_reducible refine gA ?_|((with_reducible refine atD_id ?_); first | refine AtD.eq h193 ?_ | refine AtD.eq hR ?_ | refine AtD.eq hI ?_ | refine AtD.now ?_)|(with_reducible first|refine gB ?_|refine gZ (fun x hx hu=>?_)|refine gY (fun x hx=>?_)|refine gE ?_|refine Both.mk ?_ ?_|refine gS (fun h=>?_) (fun h=>?_)|refine Spl.nt ?_|refine Spl.mk (fun h=>?_) (fun h=>?_))))
   refine bl_of ?_
   rw [beq_iff_eq, hP]
   exact ⟨fun q => ⟨rfl, q⟩, fun q => q.2⟩
section
variable {d : Option Dk} {I : List Ino} {E : List Ent} {R : List Bool}
theorem ldX_R (h : XOK I E R) {n : Nat} {b : Bool} (hb : R[n]? = some b) {ty : Ty} (ha : ty.kd.agg = false) {off : Nat} (ho : off = 193 + n * 1) : ldA ty off ((encX d I E R).map AV.d) = .d (.bl b) := by
 subst ho
 unfold ldA
 rw [ha, cond_false, List.getD_eq_getElem?_getD, List.getElem?_map]
 have e := fm_at (enc := fun b => [D.bl b]) (sz := 1) (fun _ => rfl) [] [] R n b hb
 have e2 : (encX d I E R)[193 + n * 1]? = some (.bl b) := by
  have h1 : ((encX d I E R).drop 193)[n * 1]? = (encX d I E R)[193 + n * 1]? := List.getElem?_drop
  rw [← h1, x_d193 h]
  have h2 : (((R.flatMap fun b => [D.bl b]).drop (n * 1)).take 1)[0]? = some (.bl b) := by
   have : (((R.flatMap fun b => [D.bl b]).drop (n * 1)).take 1) = [.bl b] := by simpa using e
   rw [this]; rfl
  rw [List.getElem?_take, if_pos (by decide), List.getElem?_drop] at h2
  simpa using h2
 rw [e2]; rfl
theorem ldX_I (h : XOK I E R) {n : Nat} {x : Ino} (hx : I[n]? = some x) {ty : Ty} (ha : ty.kd.agg = false) {off : Nat} (ho : off = 1 + n * 6 + 0) : ldA ty off ((encX d I E R).map AV.d) = .d (.it .i64 x.k) := by
 subst ho
 unfold ldA
 rw [ha, cond_false, List.getD_eq_getElem?_getD, List.getElem?_map]
 have e := fm_at encI_len [encD d] (E.flatMap encE ++ R.flatMap fun b => [D.bl b]) I n x hx
 have e2 : (encX d I E R)[1 + n * 6]? = some (.it .i64 x.k) := by
  have h2 : (((encX d I E R).drop (1 + n * 6)).take 6)[0]? = some (.it .i64 x.k) := by
   have : ((encX d I E R).drop (1 + n * 6)).take 6 = encI x := by
    unfold encX
    rw [List.append_assoc ([encD d] ++ _)]
    exact e
   rw [this]; rfl
  rw [List.getElem?_take, if_pos (by decide), List.getElem?_drop] at h2
  simpa using h2
 rw [show 1 + n * 6 + 0 = 1 + n * 6 from rfl, e2]; rfl
theorem ldX_E (h : XOK I E R) {ty : Ty} (ha : ty.kd.agg = true) (hz : ty.size = 96) : ldA ty 97 ((encX d I E R).map AV.d) = .dg 96 (E.flatMap encE) := by
 unfold ldA
 rw [ha, cond_true, hz]
 have e : (((encX d I E R).map AV.d).drop 97).take 96 = (E.flatMap encE).map AV.d := by
  rw [← List.map_drop, x_d97 h, ← List.map_take, List.take_left' (by rw [fm_len encE_len, h.e])]
 rw [e]
 unfold mkAg
 rw [allD_map]
theorem stX_R (h : XOK I E R) {n : Nat} (hn : n < 16) {b : Bool} {i j : Nat} (hi : i = 193 + n * 1) (hj : j = i + 1) :
  ((encX d I E R).map AV.d).take i ++ [AV.d (.bl b)] ++ ((encX d I E R).map AV.d).drop j = (encX d I E (R.set n b)).map AV.d := by
 have e := fm_setM (enc := fun b => [D.bl b]) (sz := 1) (fun _ => rfl) ([encD d] ++ I.flatMap encI ++ E.flatMap encE) [] R n b (by rw [h.r]; exact hn) (a := i) (b := j)
  (by simp [fm_len encI_len, fm_len encE_len, h.i, h.e]; omega) hj
 rw [← List.map_take, ← List.map_drop]
 have e' : (encX d I E R).take i ++ [D.bl b] ++ (encX d I E R).drop j = encX d I E (R.set n b) := by
  simpa [encX] using e
 rw [← e', List.map_append, List.map_append]; rfl
end
end Go.Proofs.YtmfokpfddponjaaGreatDoor
namespace Go.Proofs.YtmfokpfddponjaaGreatDoor
open Go.Sy
def kdI (I : List Ino) (n : Int) : Int := (I.getD n.toNat ino0).k
theorem xok_pass {I : List Ino} {E : List Ent} {R : List Bool} (h : XOK I E R) (kd : Int → Int) (L : List Ent) : XOK I E (passR kd L R) := ⟨h.i, h.e, by rw [passR_len]; exact h.r, h.p⟩
theorem callR_id {P : Program} {mem : List (Nat × Ob)} {f : Nat} {l : List AV} {K : AV → Prop} (h : CallR P mem f l K) : CallR P mem f l K := h
theorem ldD_E {E : List Ent} {n : Int} {x : Ent} (hx : E[n.toNat]? = some x) {ty : Ty} (ha : ty.kd.agg = true) (hz : ty.size = 4) : ldD ty ((E.flatMap encE).drop (n.toNat * 4)) = .dg 4 (encE x) := by
 unfold ldD
 rw [ha, cond_true, hz]
 have := fm_at encE_len [] [] E n.toNat x hx
 have e : ((E.flatMap encE).drop (n.toNat * 4)).take 4 = encE x := by simpa using this
 rw [e]
def rpA (d : Option Dk) (I : List Ino) (E : List Ent) (R : List Bool) (T : Nat) (k : Nat) (R' : List Bool) (m : Bool) : S :=
 ⟨[(0, .ptr 0 0), (3, .d (.bl m)), (9, .dg 96 (E.flatMap encE)), (10, .d (.it .i64 (k : Nat)))], [(0, .cells 209 ((encX d I E R').map .d)), (1, .frame 2 [(0, .ptr 0 0)]), (2, .tag 0 T)], 3⟩
theorem rpA_ok (d : Option Dk) (I : List Ino) (E : List Ent) (R : List Bool) (T : Nat) (k : Nat) (R' : List Bool) (m : Bool) : (rpA d I E R T k R' m).ok = true := by
 unfold rpA
 simp only [S.ok, List.all_cons, List.all_nil, Ob.lt, all_d]; rfl
theorem X_m1 (d : Option Dk) (I : List Ino) (E : List Ent) (R : List Bool) : (Ob.cells 209 ((encX d I E R).map .d)).m1 false = true := by
 show (!false && (Sy.allD _).isSome) = true
 rw [allD_map]; rfl
def rpI (I : List Ino) (E : List Ent) (R : List Bool) (x : Nat × List Bool × Bool) : Prop := x.1 ≤ 24 ∧ x.2.1 = passR (kdI I) (E.take x.1) R ∧ x.2.2 = decide (cntR R < cntR x.2.1)
set_option maxHeartbeats 8000000 in
theorem reach_ok {d : Option Dk} {I : List Ino} {E : List Ent} {R : List Bool} (h : XOK I E R) :
  FnM Tryz.prog 83 false [.ptr 0 0] (.cells 209 ((encX d I E R).map .d)) (.cells 209 ((encX d I E (passR (kdI I) E R)).map .d)) (.d (.bl (decide (cntR R < cntR (passR (kdI I) E R))))) := by
 refine FnM.intro ti_ok Tryz.func83 rfl Tryz.ntmps83 Tryz.call83 rfl (X_m1 ..) (X_m1 ..) rfl (Nat.le_of_ble_eq_true rfl) .cells ?_
 intro T
 have hl0 := allD_map (encX d I E R)
 (repeat' ((conv=>whnf);first|with_reducible refine gA ?_|((with_reducible refine atA_id ?_); first | refine AtA.eq (ldX_E h rfl rfl) ?_)|(with_reducible first|refine gB ?_|refine gZ (fun x hx hu=>?_)|refine gY (fun x hx=>?_)|refine gE ?_|refine Both.mk ?_ ?_|refine gS (fun h=>?_) (fun h=>?_)|refine Spl.nt ?_|refine Spl.mk (fun h=>?_) (fun h=>?_))))
 conv => whnf
 refine loop_rule ti_ok (rpI I E R) (fun x => rpA d I E R T x.1 x.2.1 x.2.2) (fun x => 24 - x.1) (0, R, false) ⟨Nat.zero_le _, rfl, by simp⟩ ⟨And.intro rfl (And.intro rfl (And.intro rfl (And.intro rfl trivial))), And.intro rfl (And.intro rfl (And.intro rfl trivial)), rpA_ok ..⟩ ?_
 intro ⟨k, R', m⟩ hk0
 have hkl := hk0.1
 have hRk := hk0.2.1
 have hm := hk0.2.2
 dsimp only at hkl hRk hm
 by_cases hk : k < 24
 ·have hg : E[k]? = some (E[k]'(by rw [h.e]; exact hk)) := List.getElem?_eq_getElem _
  have hmem : E[k]'(by rw [h.e]; exact hk) ∈ E := List.getElem_mem _
  have hsn := passR_snoc (kdI I) hg R
  have hx := xok_pass h (kdI I) (E.take k)
  have hc1 := passR_cnt (kdI I) (E.take k) R
  rw [← hRk] at hsn hx hc1
  generalize E[k]'(by rw [h.e]; exact hk) = e at hg hmem hsn
  have hgI : E[((k : Nat) : Int).toNat]? = some e := hg
  have hs := sound_ok (d := d) hx hmem
  have hal := allD_map (encX d I E R')
  have hdr : (((encX d I E R').map AV.d).drop 0).take 209 = (encX d I E R').map AV.d := by
   rw [List.drop_zero, List.take_of_length_le (by rw [List.length_map, x_len hx]; exact Nat.le_refl _)]
  by_cases hsp : sndP I R' e
  ·rw [decide_eq_true hsp] at hs
   have hu := hsp.1
   have hp := h.p e hmem hu
   have hr : R'[e.t.toNat]? = some (R'[e.t.toNat]'(by rw [hx.r]; omega)) := List.getElem?_eq_getElem _
   have hy : I[e.t.toNat]? = some (I[e.t.toNat]'(by rw [h.i]; omega)) := List.getElem?_eq_getElem _
   generalize R'[e.t.toNat]'(by rw [hx.r]; omega) = r at hr
   generalize I[e.t.toNat]'(by rw [h.i]; omega) = y at hy
   have hT : turnsR (kdI I) R' e ↔ r = false ∧ y.k ≠ 0 := by
    unfold turnsR kdI
    rw [List.getD_eq_getElem?_getD (l := R') (i := e.t.toNat), hr, List.getD_eq_getElem?_getD (l := I) (i := e.t.toNat), hy]
    exact ⟨fun q => ⟨q.2.2.2.2.1, q.2.2.2.1⟩, fun q => ⟨hu, hsp.2.1, hsp.2.2, q.2, q.1, by rw [hx.r]; omega⟩⟩
   by_cases hrr : r = true
   ·have hst := hsn.trans (stepR_no (fun q => by have := (hT.1 q).1; rw [hrr] at this; cases this))
    rw [hrr] at hr
    (repeat' ((conv=>whnf);first|with_reducible refine gA ?_|((with_reducible refine atA_id ?_); first | refine AtA.eq (ldD_E hgI rfl rfl) ?_ | refine AtA.eq (ldX_R hx hr rfl rfl) ?_ | refine AtA.eq (ldX_I hx hy rfl rfl) ?_) | ((with_reducible refine callR_id ?_); refine CallR.mk ⟨[AV.d (.fp 209 (encX d I E R')), .dg 4 (encE e)], _, And.intro ⟨209, _, by with_unfolding_all exact rfl, Nat.le_refl _, x_len hx, (congrArg frzL hdr).trans (frz_map _)⟩ (And.intro (by with_unfolding_all exact rfl) trivial), hs, rfl, ?_⟩)|(with_reducible first|refine gB ?_|refine gZ (fun x hx hu=>?_)|refine gY (fun x hx=>?_)|refine gE ?_|refine Both.mk ?_ ?_|refine gS (fun h=>?_) (fun h=>?_)|refine Spl.nt ?_|refine Spl.mk (fun h=>?_) (fun h=>?_))))
    refine again (k + 1, R', m) ⟨hk, hst.symm, hm⟩ (by dsimp only; omega) (And.intro rfl (And.intro rfl (And.intro rfl (And.intro (it_eq (by dsimp only; omega)) trivial)))) (And.intro rfl (And.intro rfl (And.intro rfl trivial))) (rpA_ok ..)
   ·have hrf : r = false := by simpa using hrr
    rw [hrf] at hr
    by_cases hyk : y.k = 0
    ·have hst := hsn.trans (stepR_no (fun q => (hT.1 q).2 hyk))
     (repeat' ((conv=>whnf);first|with_reducible refine gA ?_|((with_reducible refine atA_id ?_); first | refine AtA.eq (ldD_E hgI rfl rfl) ?_ | refine AtA.eq (ldX_R hx hr rfl rfl) ?_ | refine AtA.eq (ldX_I hx hy rfl rfl) ?_) | ((with_reducible refine callR_id ?_); refine CallR.mk ⟨[AV.d (.fp 209 (encX d I E R')), .dg 4 (encE e)], _, And.intro ⟨209, _, by with_unfolding_all exact rfl, Nat.le_refl _, x_len hx, (congrArg frzL hdr).trans (frz_map _)⟩ (And.intro (by with_unfolding_all exact rfl) trivial), hs, rfl, ?_⟩)|(with_reducible first|refine gB ?_|refine gZ (fun x hx hu=>?_)|refine gY (fun x hx=>?_)|refine gE ?_|refine Both.mk ?_ ?_|refine gS (fun h=>?_) (fun h=>?_)|refine Spl.nt ?_|refine Spl.mk (fun h=>?_) (fun h=>?_))))
     refine again (k + 1, R', m) ⟨hk, hst.symm, hm⟩ (by dsimp only; omega) (And.intro rfl (And.intro rfl (And.intro rfl (And.intro (it_eq (by dsimp only; omega)) trivial)))) (And.intro rfl (And.intro rfl (And.intro rfl trivial))) (rpA_ok ..)
    ·have hty := stepR_yes (hT.2 ⟨hrf, hyk⟩)
     have hst := hsn.trans hty.1
     (repeat' ((conv=>whnf);first|with_reducible refine gA ?_|((with_reducible refine atA_id ?_); first | refine AtA.eq (ldD_E hgI rfl rfl) ?_ | refine AtA.eq (ldX_R hx hr rfl rfl) ?_ | refine AtA.eq (ldX_I hx hy rfl rfl) ?_) | ((with_reducible refine callR_id ?_); refine CallR.mk ⟨[AV.d (.fp 209 (encX d I E R')), .dg 4 (encE e)], _, And.intro ⟨209, _, by with_unfolding_all exact rfl, Nat.le_refl _, x_len hx, (congrArg frzL hdr).trans (frz_map _)⟩ (And.intro (by with_unfolding_all exact rfl) trivial), hs, rfl, ?_⟩)|(with_reducible first|refine gB ?_|refine gZ (fun x hx hu=>?_)|refine gY (fun x hx=>?_)|refine gE ?_|refine Both.mk ?_ ?_|refine gS (fun h=>?_) (fun h=>?_)|refine Spl.nt ?_|refine Spl.mk (fun h=>?_) (fun h=>?_))))
     have hmt : true = decide (cntR R < cntR (R'.set e.t.toNat true)) := by
      rw [eq_comm, decide_eq_true_eq, ← hty.1, hty.2]; omega
     refine again (k + 1, R'.set e.t.toNat true, true) ⟨hk, hst.symm, hmt⟩ (by dsimp only; omega) (And.intro rfl (And.intro rfl (And.intro rfl (And.intro (it_eq (by dsimp only; omega)) trivial)))) (And.intro (cells_eq rfl (stX_R hx (by omega) rfl rfl)) (And.intro rfl (And.intro rfl trivial))) (rpA_ok ..)
  ·rw [decide_eq_false hsp] at hs
   have hno : ¬ turnsR (kdI I) R' e := fun q => hsp ⟨q.1, q.2.1, q.2.2.1⟩
   have hst := hsn.trans (stepR_no hno)
   (repeat' ((conv=>whnf);first|with_reducible refine gA ?_|((with_reducible refine atA_id ?_); first | refine AtA.eq (ldD_E hgI rfl rfl) ?_) | ((with_reducible refine callR_id ?_); refine CallR.mk ⟨[AV.d (.fp 209 (encX d I E R')), .dg 4 (encE e)], _, And.intro ⟨209, _, by with_unfolding_all exact rfl, Nat.le_refl _, x_len hx, (congrArg frzL hdr).trans (frz_map _)⟩ (And.intro (by with_unfolding_all exact rfl) trivial), hs, rfl, ?_⟩)|(with_reducible first|refine gB ?_|refine gZ (fun x hx hu=>?_)|refine gY (fun x hx=>?_)|refine gE ?_|refine Both.mk ?_ ?_|refine gS (fun h=>?_) (fun h=>?_)|refine Spl.nt ?_|refine Spl.mk (fun h=>?_) (fun h=>?_))))
   refine again (k + 1, R', m) ⟨hk, hst.symm, hm⟩ (by dsimp only; omega) (And.intro rfl (And.intro rfl (And.intro rfl (And.intro (it_eq (by dsimp only; omega)) trivial)))) (And.intro rfl (And.intro rfl (And.intro rfl trivial))) (rpA_ok ..)
 ·have hk24 : E.take k = E := List.take_of_length_le (by rw [h.e]; omega)
  rw [hk24] at hRk
  (repeat' ((conv=>whnf);first|with_reducible refine gA ?_|(with_reducible first|refine gB ?_|refine gZ (fun x hx hu=>?_)|refine gY (fun x hx=>?_)|refine gE ?_|refine Both.mk ?_ ?_|refine gS (fun h=>?_) (fun h=>?_)|refine Spl.nt ?_|refine Spl.mk (fun h=>?_) (fun h=>?_))))
  refine ⟨⟨[(2, .d (.bl m))], [(0, .cells 209 ((encX d I E R').map .d)), (1, .frame 2 [(0, .ptr 0 0)]), (2, .tag 0 T)], 3⟩, Wk.en ⟨And.intro rfl trivial, And.intro rfl (And.intro rfl (And.intro rfl trivial)), ?_⟩, ?_, ?_, rfl, rfl⟩
  ·simp only [S.ok, List.all_cons, List.all_nil, Ob.lt, all_d]; rfl
  ·show AV.d (.bl m) = .d (.bl (decide (cntR R < cntR (passR (kdI I) E R))))
   rw [hm, hRk]
  ·show some (Ob.cells 209 ((encX d I E R').map .d)) = _
   rw [hRk]
end Go.Proofs.YtmfokpfddponjaaGreatDoor
namespace Go.Proofs.YtmfokpfddponjaaGreatDoor
open Go.Sy
def xI (f : Int → List UInt8) (n : Nat) : List Ino := (List.range 16).map fun i : Nat => if i < n then inoAt f (i : Nat) else ino0
def xE (f : Int → List UInt8) (n : Nat) : List Ent := (List.range 24).map fun i : Nat => if i < n then entAt f (i : Nat) else ent0
theorem xI_len (f : Int → List UInt8) (n : Nat) : (xI f n).length = 16 := by unfold xI; rw [List.length_map, List.length_range]
theorem xE_len (f : Int → List UInt8) (n : Nat) : (xE f n).length = 24 := by unfold xE; rw [List.length_map, List.length_range]
theorem xI_get (f : Int → List UInt8) (n i : Nat) (h : i < (xI f n).length) : (xI f n)[i] = if i < n then inoAt f (i : Nat) else ino0 := by simp [xI]
theorem xI_set (f : Int → List UInt8) {n : Nat} (h : n < 16) : (xI f n).set n (inoAt f (n : Nat)) = xI f (n + 1) := by
 refine List.ext_getElem (by rw [List.length_set, xI_len, xI_len]) fun i h1 h2 => ?_
 rw [List.getElem_set, xI_get, xI_get]
 by_cases hi : n = i
 ·subst hi; rw [if_pos rfl, if_pos (by omega)]
 ·rw [if_neg hi]
  by_cases h3 : i < n
  ·rw [if_pos h3, if_pos (by omega)]
  ·rw [if_neg h3, if_neg (by omega)]
theorem xE_get (f : Int → List UInt8) (n i : Nat) (h : i < (xE f n).length) : (xE f n)[i] = if i < n then entAt f (i : Nat) else ent0 := by simp [xE]
theorem xE_set (f : Int → List UInt8) {n : Nat} (h : n < 24) : (xE f n).set n (entAt f (n : Nat)) = xE f (n + 1) := by
 refine List.ext_getElem (by rw [List.length_set, xE_len, xE_len]) fun i h1 h2 => ?_
 rw [List.getElem_set, xE_get, xE_get]
 by_cases hi : n = i
 ·subst hi; rw [if_pos rfl, if_pos (by omega)]
 ·rw [if_neg hi]
  by_cases h3 : i < n
  ·rw [if_pos h3, if_pos (by omega)]
  ·rw [if_neg h3, if_neg (by omega)]
theorem entAt_RE (f : Int → List UInt8) (k : Int) : RE (entAt f k) := by
 unfold entAt
 split
 ·unfold entOf
  split
  ·rename_i h; exact h.1
  ·exact .inl ⟨rfl, rfl, rfl, rfl⟩
 ·exact .inl ⟨rfl, rfl, rfl, rfl⟩
theorem xok_L (f : Int → List UInt8) (n k : Nat) {R : List Bool} (hR : R.length = 16) : XOK (xI f n) (xE f k) R := by
 refine ⟨xI_len f n, xE_len f k, hR, fun x hx hu => ?_⟩
 obtain ⟨i, _, rfl⟩ := List.mem_map.1 hx
 have hx' : RE (if i < k then entAt f (i : Nat) else ent0) := by
  split
  ·exact entAt_RE f i
  ·exact .inl ⟨rfl, rfl, rfl, rfl⟩
 rcases hx' with h | h
 ·rw [hu] at h; cases h.1
 ·exact ⟨h.2.1, h.2.2.1, h.2.2.2.1, h.2.2.2.2.1⟩
theorem stX_I {d : Option Dk} {I : List Ino} {E : List Ent} {R : List Bool} (h : XOK I E R) {n : Nat} (hn : n < 16) {y : Ino} {i j : Nat} (hi : i = 1 + n * 6) (hj : j = i + 6) :
  ((encX d I E R).map AV.d).take i ++ (encI y).map AV.d ++ ((encX d I E R).map AV.d).drop j = (encX d (I.set n y) E R).map AV.d := by
 have e := fm_setM encI_len [encD d] (E.flatMap encE ++ R.flatMap fun b => [D.bl b]) I n y (by rw [h.i]; exact hn) (a := i) (b := j) (by simpa using hi) hj
 rw [← List.map_take, ← List.map_drop]
 have e' : (encX d I E R).take i ++ encI y ++ (encX d I E R).drop j = encX d (I.set n y) E R := by
  unfold encX
  rw [List.append_assoc ([encD d] ++ I.flatMap encI), List.append_assoc ([encD d] ++ (I.set n y).flatMap encI)]
  exact e
 rw [← e', List.map_append, List.map_append]
theorem stX_E {d : Option Dk} {I : List Ino} {E : List Ent} {R : List Bool} (h : XOK I E R) {n : Nat} (hn : n < 24) {y : Ent} {i j : Nat} (hi : i = 97 + n * 4) (hj : j = i + 4) :
  ((encX d I E R).map AV.d).take i ++ (encE y).map AV.d ++ ((encX d I E R).map AV.d).drop j = (encX d I (E.set n y) R).map AV.d := by
 have e := fm_setM encE_len ([encD d] ++ I.flatMap encI) (R.flatMap fun b => [D.bl b]) E n y (by rw [h.e]; exact hn) (a := i) (b := j) (by simp [fm_len encI_len, h.i]; omega) hj
 rw [← List.map_take, ← List.map_drop]
 have e' : (encX d I E R).take i ++ encE y ++ (encX d I E R).drop j = encX d I (E.set n y) R := e
 rw [← e', List.map_append, List.map_append]
def rdA (d : Option Dk) (s : Nat) (k : Nat) (I : List Ino) (E : List Ent) (R : List Bool) : S :=
 ⟨[(0, .d (encD d)), (3, .ptr 0 0), (s, .d (.it .i64 (k : Nat)))], [(0, .cells 209 ((encX d I E R).map .d))], 1⟩
theorem rdA_ok (d : Option Dk) (s : Nat) (k : Nat) (I : List Ino) (E : List Ent) (R : List Bool) : (rdA d s k I E R).ok = true := by
 unfold rdA
 simp only [S.ok, List.all_cons, List.all_nil, Ob.lt, all_d]; rfl
def rdI (f : Int → List UInt8) (x : Nat × List Ino) : Prop := x.1 ≤ 16 ∧ x.2 = xI f x.1
def rdE' (f : Int → List UInt8) (x : Nat × List Ent) : Prop := x.1 ≤ 24 ∧ x.2 = xE f x.1
theorem passR_fix (kd : Int → Int) : ∀ (E : List Ent) (R : List Bool), ¬ cntR R < cntR (passR kd E R) → passR kd E R = R
 | [], R, _ => rfl
 | x :: E, R, h => by
  have h1 : passR kd (x :: E) R = passR kd E (stepR kd R x) := rfl
  rw [h1] at h ⊢
  have h2 := passR_cnt kd E (stepR kd R x)
  by_cases ht : turnsR kd R x
  ·have := (stepR_yes ht).2; omega
  ·rw [stepR_no ht] at h ⊢
   exact passR_fix kd E R h
def rcI (kd : Int → Int) (E : List Ent) (x : Nat × List Bool) : Prop := x.2 = iterR kd E x.1 R0 ∧ x.1 + 1 ≤ cntR x.2 ∧ x.2.length = 16
def rcA (d : Option Dk) (I : List Ino) (E : List Ent) (R : List Bool) : S := ⟨[(0, .d (encD d)), (3, .ptr 0 0)], [(0, .cells 209 ((encX d I E R).map .d))], 1⟩
theorem rcA_ok (d : Option Dk) (I : List Ino) (E : List Ent) (R : List Bool) : (rcA d I E R).ok = true := by
 unfold rcA
 simp only [S.ok, List.all_cons, List.all_nil, Ob.lt, all_d]; rfl
def F16 : List Bool := List.replicate 16 false
set_option maxHeartbeats 8000000 in
theorem xread_ok (d : Option Dk) (hd : DkOK d) : FnC Tryz.prog 62 [.d (encD d)] (.d (.fp 209 (encX d (xI (rdS d) 16) (xE (rdS d) 24) (reachR (kdI (xI (rdS d) 16)) (xE (rdS d) 24))))) := by
 have hi := fun n => inode_ok d hd n
 have he := fun n => entry_ok d hd n
 refine FnC.intro ti_ok Tryz.func62 rfl Tryz.ntmps62 Tryz.call62 rfl (Nat.le_of_ble_eq_true rfl) rfl ?_
 (repeat' ((conv=>whnf);first|with_reducible refine gA ?_|(with_reducible first|refine gB ?_|refine gZ (fun x hx hu=>?_)|refine gY (fun x hx=>?_)|refine gE ?_|refine Both.mk ?_ ?_|refine gS (fun h=>?_) (fun h=>?_)|refine Spl.nt ?_|refine Spl.mk (fun h=>?_) (fun h=>?_))))
 conv => whnf
 refine loop_rule ti_ok (rdI (rdS d)) (fun x => rdA d 9 x.1 x.2 (xE (rdS d) 0) F16) (fun x => 16 - x.1) (0, xI (rdS d) 0) ⟨Nat.zero_le _, rfl⟩ ⟨And.intro rfl (And.intro rfl (And.intro rfl trivial)), And.intro (cells_eq rfl (by with_unfolding_all exact rfl)) trivial, rdA_ok ..⟩ ?_
 intro ⟨k, L⟩ hk0
 have hkl := hk0.1
 have hL := hk0.2
 dsimp only at hkl hL
 by_cases hk : k < 16
 ·have hX := xok_L (rdS d) k 0 (R := F16) rfl
  rw [← hL] at hX
  have hik := hi (k : Nat)
  have hset := xI_set (rdS d) hk
  rw [← hL] at hset
  (repeat' ((conv=>whnf);first|with_reducible refine gA ?_|((with_reducible refine callE_id ?_); (refine CallE.con ⟨_, hik, ?_⟩)) | refine CallP.mk ⟨_, hik, ?_⟩|(with_reducible first|refine gB ?_|refine gZ (fun x hx hu=>?_)|refine gY (fun x hx=>?_)|refine gE ?_|refine Both.mk ?_ ?_|refine gS (fun h=>?_) (fun h=>?_)|refine Spl.nt ?_|refine Spl.mk (fun h=>?_) (fun h=>?_))))
  refine again (k + 1, L.set k (inoAt (rdS d) (k : Nat))) ⟨hk, hset⟩ (by dsimp only; omega) (And.intro rfl (And.intro rfl (And.intro (it_eq (by dsimp only; omega)) trivial))) (And.intro (cells_eq rfl (stX_I hX hk rfl rfl)) trivial) (rdA_ok ..)
 ·have hk16 : k = 16 := by omega
  rw [hk16] at hL
  (repeat' ((conv=>whnf);first|with_reducible refine gA ?_|(with_reducible first|refine gB ?_|refine gZ (fun x hx hu=>?_)|refine gY (fun x hx=>?_)|refine gE ?_|refine Both.mk ?_ ?_|refine gS (fun h=>?_) (fun h=>?_)|refine Spl.nt ?_|refine Spl.mk (fun h=>?_) (fun h=>?_))))
  conv => whnf
  refine loop_rule ti_ok (rdE' (rdS d)) (fun x => rdA d 21 x.1 L x.2 F16) (fun x => 24 - x.1) (0, xE (rdS d) 0) ⟨Nat.zero_le _, rfl⟩ ⟨And.intro rfl (And.intro rfl (And.intro rfl trivial)), And.intro rfl trivial, rdA_ok ..⟩ ?_
  intro ⟨k2, M⟩ hk1
  have hk2l := hk1.1
  have hM := hk1.2
  dsimp only at hk2l hM
  have hX := xok_L (rdS d) 16 k2 (R := F16) rfl
  rw [← hL, ← hM] at hX
  by_cases hk2 : k2 < 24
  ·have hek := he (k2 : Nat)
   have hset := xE_set (rdS d) hk2
   rw [← hM] at hset
   (repeat' ((conv=>whnf);first|with_reducible refine gA ?_|((with_reducible refine callE_id ?_); (refine CallE.con ⟨_, hek, ?_⟩)) | refine CallP.mk ⟨_, hek, ?_⟩|(with_reducible first|refine gB ?_|refine gZ (fun x hx hu=>?_)|refine gY (fun x hx=>?_)|refine gE ?_|refine Both.mk ?_ ?_|refine gS (fun h=>?_) (fun h=>?_)|refine Spl.nt ?_|refine Spl.mk (fun h=>?_) (fun h=>?_))))
   refine again (k2 + 1, M.set k2 (entAt (rdS d) (k2 : Nat))) ⟨hk2, hset⟩ (by dsimp only; omega) (And.intro rfl (And.intro rfl (And.intro (it_eq (by dsimp only; omega)) trivial))) (And.intro (cells_eq rfl (stX_E hX hk2 rfl rfl)) trivial) (rdA_ok ..)
  ·have hk24 : k2 = 24 := by omega
   rw [hk24] at hM
   (repeat' ((conv=>whnf);first|with_reducible refine gA ?_|(with_reducible first|refine gB ?_|refine gZ (fun x hx hu=>?_)|refine gY (fun x hx=>?_)|refine gE ?_|refine Both.mk ?_ ?_|refine gS (fun h=>?_) (fun h=>?_)|refine Spl.nt ?_|refine Spl.mk (fun h=>?_) (fun h=>?_))))
   conv => whnf
   refine loop_rule ti_ok (rcI (kdI L) M) (fun x => rcA d L M x.2) (fun x => 16 - x.1) (0, R0) ⟨rfl, by decide, rfl⟩ ⟨And.intro rfl (And.intro rfl trivial), And.intro (cells_eq rfl (stX_R (n := 0) hX (by decide) rfl rfl)) trivial, rcA_ok ..⟩ ?_
   intro ⟨j, R⟩ hj0
   have hj := hj0.1
   have hjc := hj0.2.1
   have hjl := hj0.2.2
   dsimp only at hj hjc hjl
   have hY : XOK L M R := ⟨hX.i, hX.e, hjl, hX.p⟩
   have hr := reach_ok (d := d) hY
   have hle := cntR_le R
   rw [hjl] at hle
   by_cases hm : cntR R < cntR (passR (kdI L) M R)
   ·rw [decide_eq_true hm] at hr
    (repeat' ((conv=>whnf);first|with_reducible refine gA ?_|((with_reducible refine callI_id ?_); refine CallI.byM hr (by with_unfolding_all exact rfl) rfl ?_)|(with_reducible first|refine gB ?_|refine gZ (fun x hx hu=>?_)|refine gY (fun x hx=>?_)|refine gE ?_|refine Both.mk ?_ ?_|refine gS (fun h=>?_) (fun h=>?_)|refine Spl.nt ?_|refine Spl.mk (fun h=>?_) (fun h=>?_))))
    refine again (j + 1, passR (kdI L) M R) ⟨?_, by dsimp only; omega, by dsimp only; rw [passR_len]; exact hjl⟩ (by dsimp only; omega) (And.intro rfl (And.intro rfl trivial)) (And.intro rfl trivial) (rcA_ok ..)
    show passR (kdI L) M R = iterR (kdI L) M (j + 1) R0
    rw [iterR_add, ← hj]; rfl
   ·rw [decide_eq_false hm] at hr
    have hfix := passR_fix (kdI L) M R hm
    have hre := reach_at (kdI L) M (j := j) (by omega) (by rw [← hj]; exact hfix)
    rw [← hj] at hre
    (repeat' ((conv=>whnf);first|with_reducible refine gA ?_|((with_reducible refine callI_id ?_); refine CallI.byM hr (by with_unfolding_all exact rfl) rfl ?_)|(with_reducible first|refine gB ?_|refine gZ (fun x hx hu=>?_)|refine gY (fun x hx=>?_)|refine gE ?_|refine Both.mk ?_ ?_|refine gS (fun h=>?_) (fun h=>?_)|refine Spl.nt ?_|refine Spl.mk (fun h=>?_) (fun h=>?_))))
    refine ⟨encX d L M (passR (kdI L) M R), ⟨Nat.zero_le _, rfl⟩, ?_⟩
    show AV.d (.fp (209 - 0) _) = _
    rw [hfix, hre, hL, hM]
end Go.Proofs.YtmfokpfddponjaaGreatDoor
namespace Go.Proofs.YtmfokpfddponjaaGreatDoor
open Go.Sy
def oddP (d : Option Dk) (k : Int) : Prop := hasP d (17 + k) ∧ entOk (rdS d (17 + k)) = false
instance (d : Option Dk) (k : Int) : Decidable (oddP d k) := by unfold oddP; infer_instance
set_option maxHeartbeats 4000000 in
theorem odd_ok {d : Option Dk} (hd : DkOK d) (I : List Ino) (E : List Ent) (R : List Bool) (k : Int) (hk : 0 ≤ k ∧ k < 24) : FnC Tryz.prog 120 [.d (.fp 209 (encX d I E R)), .d (.it .i64 k)] (.d (.bl (decide (oddP d k)))) := by
 have hr := read_ok d hd (17 + k)
 have hs := rdS_len hd (17 + k)
 have he := entOf_ok (rdS d (17 + k)) hs
 unfold entOfV at he
 have h0 : (encX d I E R).drop 0 = encX d I E R := rfl
 have hld : ∀ {ty : Ty}, ty.kd.agg = false → ldD ty (encX d I E R) = .d (encD d) := fun {ty} ha => by unfold ldD; rw [ha]; rfl
 by_cases hh : hasP d (17 + k)
 ·rw [show rdE d (17 + k) = 0 from if_pos hh] at hr
  refine FnC.intro ti_ok Tryz.func120 rfl Tryz.ntmps120 Tryz.call120 rfl (Nat.le_of_ble_eq_true rfl) rfl ?_
  (repeat' ((conv=>whnf);first|with_reducible refine gA ?_|((with_reducible refine callE_id ?_); first | (refine CallE.con ⟨_, hr, ?_⟩) | (refine CallE.con ⟨_, he, ?_⟩)) | ((with_reducible refine atD_id ?_); refine AtD.eq h0 ?_) | ((with_reducible refine atA_id ?_); first | refine AtA.eq (hld rfl) ?_ | refine AtA.eq (ld_sec rfl rfl hs) ?_) | ((with_reducible refine letC_id ?_); refine LetC.mk ((encS (rdS d (17 + k))).map AV.d) (st_all _) ?_)|(with_reducible first|refine gB ?_|refine gZ (fun x hx hu=>?_)|refine gY (fun x hx=>?_)|refine gE ?_|refine Both.mk ?_ ?_|refine gS (fun h=>?_) (fun h=>?_)|refine Spl.nt ?_|refine Spl.mk (fun h=>?_) (fun h=>?_))))
  refine bl_of ?_
  unfold oddP
  simp [hh]
 ·rw [show rdE d (17 + k) = 1 from if_neg hh] at hr
  refine FnC.intro ti_ok Tryz.func120 rfl Tryz.ntmps120 Tryz.call120 rfl (Nat.le_of_ble_eq_true rfl) rfl ?_
  (repeat' ((conv=>whnf);first|with_reducible refine gA ?_|((with_reducible refine callE_id ?_); first | (refine CallE.con ⟨_, hr, ?_⟩) | (refine CallE.con ⟨_, he, ?_⟩)) | ((with_reducible refine atD_id ?_); refine AtD.eq h0 ?_) | ((with_reducible refine atA_id ?_); first | refine AtA.eq (hld rfl) ?_ | refine AtA.eq (ld_sec rfl rfl hs) ?_) | ((with_reducible refine letC_id ?_); refine LetC.mk ((encS (rdS d (17 + k))).map AV.d) (st_all _) ?_)|(with_reducible first|refine gB ?_|refine gZ (fun x hx hu=>?_)|refine gY (fun x hx=>?_)|refine gE ?_|refine Both.mk ?_ ?_|refine gS (fun h=>?_) (fun h=>?_)|refine Spl.nt ?_|refine Spl.mk (fun h=>?_) (fun h=>?_))))
  exact bl_ff (fun q => hh q.1)
def ownK (ino : Nat → Ino) (tk : Nat → Bool) (b : Int) (k : Nat) : Nat := ((List.range k).filter fun i => decide ((ino i).k = 1 ∧ b ∈ blks (ino i)) && tk i).length
theorem ownK_yes {ino : Nat → Ino} {tk : Nat → Bool} {b : Int} {k : Nat} (h1 : (ino k).k = 1 ∧ b ∈ blks (ino k)) (h2 : tk k = true) : ownK ino tk b (k + 1) = ownK ino tk b k + 1 := by
 unfold ownK
 rw [List.range_succ, List.filter_append, List.length_append]
 simp [h1, h2]
theorem ownK_no {ino : Nat → Ino} {tk : Nat → Bool} {b : Int} {k : Nat} (h : ¬ (((ino k).k = 1 ∧ b ∈ blks (ino k)) ∧ tk k = true)) : ownK ino tk b (k + 1) = ownK ino tk b k := by
 unfold ownK
 rw [List.range_succ, List.filter_append, List.length_append]
 have : (decide ((ino k).k = 1 ∧ b ∈ blks (ino k)) && tk k) = false := by
  rw [Bool.and_eq_false_iff]
  by_cases h1 : (ino k).k = 1 ∧ b ∈ blks (ino k)
  ·right
   cases h2 : tk k with
   | true => exact (h ⟨h1, h2⟩).elim
   | false => rfl
  ·left; exact decide_eq_false h1
 have e : [k].filter (fun i => decide ((ino i).k = 1 ∧ b ∈ blks (ino i)) && tk i) = [] := by simp only [List.filter, this]
 rw [e]; rfl
theorem ownK_le (ino : Nat → Ino) (tk : Nat → Bool) (b : Int) (k : Nat) : ownK ino tk b k ≤ k := by
 unfold ownK
 exact Nat.le_trans (List.length_filter_le _ _) (by rw [List.length_range]; exact Nat.le_refl _)
theorem ldD_I96 {I : List Ino} {E : List Ent} {R : List Bool} (h : XOK I E R) {ty : Ty} (ha : ty.kd.agg = true) (hz : ty.size = 96) : ldD ty (I.flatMap encI ++ E.flatMap encE ++ R.flatMap fun b => [D.bl b]) = .dg 96 (I.flatMap encI) := by
 unfold ldD
 rw [ha, cond_true, hz, List.append_assoc, List.take_left' (by rw [fm_len encI_len, h.i])]
theorem ldD_I6 {I : List Ino} {n : Int} {x : Ino} (hx : I[n.toNat]? = some x) {ty : Ty} (ha : ty.kd.agg = true) (hz : ty.size = 6) : ldD ty ((I.flatMap encI).drop (n.toNat * 6)) = .dg 6 (encI x) := by
 unfold ldD
 rw [ha, cond_true, hz]
 have := fm_at encI_len [] [] I n.toNat x hx
 have e : ((I.flatMap encI).drop (n.toNat * 6)).take 6 = encI x := by simpa using this
 rw [e]
set_option maxHeartbeats 8000000 in
theorem own_ok {d : Option Dk} (hd : DkOK d) {I : List Ino} {E : List Ent} {R : List Bool} (h : XOK I E R) (b : Int) : FnC Tryz.prog 86 [.d (.fp 209 (encX d I E R)), .d (.it .i64 b)] (.d (.it .i64 (ownK (fun i => I.getD i ino0) (fun i => decide (takP (rdS d) (i : Nat))) b 16 : Nat))) := by
 have h0 : (encX d I E R).drop 0 = encX d I E R := rfl
 have h1 : (encX d I E R).drop 1 = I.flatMap encI ++ E.flatMap encE ++ R.flatMap fun b => [D.bl b] := rfl
 have hld : ∀ {ty : Ty}, ty.kd.agg = false → ldD ty (encX d I E R) = .d (encD d) := fun {ty} ha => by unfold ldD; rw [ha]; rfl
 have ht := fun n => taken_ok d hd n
 refine FnC.intro ti_ok Tryz.func86 rfl Tryz.ntmps86 Tryz.call86 rfl (Nat.le_of_ble_eq_true rfl) rfl ?_
 (repeat' ((conv=>whnf);first|with_reducible refine gA ?_|((with_reducible refine atD_id ?_); refine AtD.eq h1 ?_) | ((with_reducible refine atA_id ?_); refine AtA.eq (ldD_I96 h rfl rfl) ?_)|(with_reducible first|refine gB ?_|refine gZ (fun x hx hu=>?_)|refine gY (fun x hx=>?_)|refine gE ?_|refine Both.mk ?_ ?_|refine gS (fun h=>?_) (fun h=>?_)|refine Spl.nt ?_|refine Spl.mk (fun h=>?_) (fun h=>?_))))
 conv => whnf
 refine loop_rule ti_ok (fun x : Nat × Nat => x.1 ≤ 16 ∧ x.2 = ownK (fun i => I.getD i ino0) (fun i => decide (takP (rdS d) (i : Nat))) b x.1) (fun x => ⟨[(0, .d (.fp 209 (encX d I E R))), (1, .d (.it .i64 b)), (5, .d (.it .i64 (x.2 : Nat))), (11, .dg 96 (I.flatMap encI)), (12, .d (.it .i64 (x.1 : Nat)))], [], 0⟩) (fun x => 16 - x.1) (0, 0) ⟨Nat.zero_le _, rfl⟩ ⟨And.intro rfl (And.intro rfl (And.intro rfl (And.intro rfl (And.intro rfl trivial)))), trivial, rfl⟩ ?_
 intro ⟨k, c⟩ hk0
 have hkl := hk0.1
 have hc := hk0.2
 dsimp only at hkl hc
 by_cases hk : k < 16
 ·have hg : I[((k : Nat) : Int).toNat]? = some (I[k]'(by rw [h.i]; exact hk)) := List.getElem?_eq_getElem _
  have hgd : I.getD k ino0 = I[k]'(by rw [h.i]; exact hk) := by rw [List.getD_eq_getElem?_getD, List.getElem?_eq_getElem]; rfl
  generalize I[k]'(by rw [h.i]; exact hk) = y at hg hgd
  have htk := ht (k : Nat)
  have hcl := ownK_le (fun i => I.getD i ino0) (fun i => decide (takP (rdS d) (i : Nat))) b k
  rw [← hc] at hcl
  have yes : y.k = 1 → b ∈ blks y → takP (rdS d) (k : Nat) → c + 1 = ownK (fun i => I.getD i ino0) (fun i => decide (takP (rdS d) (i : Nat))) b (k + 1) := fun q1 q2 q3 => by
   rw [ownK_yes (ino := fun i => I.getD i ino0) (tk := fun i => decide (takP (rdS d) (i : Nat))) (by rw [hgd]; exact ⟨q1, q2⟩) (decide_eq_true q3), hc]
  have no : ¬ (y.k = 1 ∧ b ∈ blks y ∧ takP (rdS d) (k : Nat)) → c = ownK (fun i => I.getD i ino0) (fun i => decide (takP (rdS d) (i : Nat))) b (k + 1) := fun q => by
   rw [ownK_no (ino := fun i => I.getD i ino0) (tk := fun i => decide (takP (rdS d) (i : Nat))) (fun r => q (by have := r.1; rw [hgd] at this; exact ⟨this.1, this.2, of_decide_eq_true r.2⟩)), hc]
  by_cases hT : takP (rdS d) (k : Nat)
  all_goals first | rw [decide_eq_true hT] at htk | rw [decide_eq_false hT] at htk
  all_goals (repeat' ((conv=>whnf);first|with_reducible refine gA ?_|((with_reducible refine callE_id ?_); first | (refine CallE.con ⟨_, htk, ?_⟩) | refine CallE.inl ?_) | ((with_reducible refine callI_id ?_); first | with_reducible refine CallI.inl ti_ok i124 rfl ?_ | with_reducible refine CallI.inl ti_ok i64 rfl ?_) | with_reducible refine LoopS.unroll ti_ok 5 ?_ | ((with_reducible refine atD_id ?_); refine AtD.eq h0 ?_) | ((with_reducible refine atA_id ?_); first | refine AtA.eq (ldD_I6 hg rfl rfl) ?_ | refine AtA.eq (hld rfl) ?_)|(with_reducible first|refine gB ?_|refine gZ (fun x hx hu=>?_)|refine gY (fun x hx=>?_)|refine gE ?_|refine Both.mk ?_ ?_|refine gS (fun h=>?_) (fun h=>?_)|refine Spl.nt ?_|refine Spl.mk (fun h=>?_) (fun h=>?_))))
  all_goals first
   | (refine again (k + 1, c + 1) ⟨hk, yes (by assumption) (by simp only [blks, List.mem_cons, List.not_mem_nil, or_false]; omega) hT⟩ (by dsimp only; omega) (And.intro rfl (And.intro rfl (And.intro (it_eq (by dsimp only; omega)) (And.intro rfl (And.intro (it_eq (by dsimp only; omega)) trivial))))) trivial rfl; done)
   | (refine again (k + 1, c) ⟨hk, no (fun q => by have q2 := q.2.1; simp only [blks, List.mem_cons, List.not_mem_nil, or_false] at q2; first | exact hT q.2.2 | (have := q.1; omega))⟩ (by dsimp only; omega) (And.intro rfl (And.intro rfl (And.intro rfl (And.intro rfl (And.intro (it_eq (by dsimp only; omega)) trivial))))) trivial rfl; done)
 ·have h16 : k = 16 := by omega
  rw [h16] at hc
  (repeat' ((conv=>whnf);first|with_reducible refine gA ?_|(with_reducible first|refine gB ?_|refine gZ (fun x hx hu=>?_)|refine gY (fun x hx=>?_)|refine gE ?_|refine Both.mk ?_ ?_|refine gS (fun h=>?_) (fun h=>?_)|refine Spl.nt ?_|refine Spl.mk (fun h=>?_) (fun h=>?_))))
  show AV.d (.it .i64 (c : Nat)) = _
  rw [hc]
end Go.Proofs.YtmfokpfddponjaaGreatDoor
namespace Go.Proofs.YtmfokpfddponjaaGreatDoor
open Go.Sy
theorem inoAt_RI (f : Int → List UInt8) (n : Int) : RI (inoAt f n) := by
 unfold inoAt
 split
 ·unfold inoOf
  split
  ·rename_i h; exact h.1
  ·exact .inl ⟨.inl rfl, rfl, rfl, rfl, rfl, rfl⟩
 ·exact .inl ⟨.inl rfl, rfl, rfl, rfl, rfl, rfl⟩
end Go.Proofs.YtmfokpfddponjaaGreatDoor
namespace Go.Proofs.YtmfokpfddponjaaGreatDoor
open Go.Sy
def prbP (od : Nat → Bool) (I : List Ino) (E : List Ent) (R : List Bool) (kind k : Nat) : Bool :=
 match kind with
 | 1 => od k
 | 2 => (E.getD k ent0).u && decide ((I.getD (E.getD k ent0).t.toNat ino0).k = 0)
 | 3 => (E.getD k ent0).u && !decide (sndP I R (E.getD k ent0))
 | 4 => (E.getD k ent0).u && (E.take k).any fun o => o.u && (decide (o.p = (E.getD k ent0).p) && decide (o.n = (E.getD k ent0).n))
 | 5 => (E.getD k ent0).u && (E.take k).any fun o => o.u && decide (o.t = (E.getD k ent0).t)
 | _ => false
theorem slF_id {sz len : Nat} {cs : List D} {lo hi : Option Int} {K : AV → Prop} (h : SlF sz len cs lo hi K) : SlF sz len cs lo hi K := h
theorem E_rows {E : List Ent} {R : List Bool} (h : E.length = 24) : (E.map encE).length = 24 ∧ (∀ x ∈ E.map encE, x.length = 4) ∧ (E.map encE).flatten = ((E.flatMap encE) ++ R.flatMap fun b => [D.bl b]).take (24 * 4) := by
 refine ⟨by rw [List.length_map, h], fun x hx => ?_, ?_⟩
 ·obtain ⟨e, _, rfl⟩ := List.mem_map.1 hx; rfl
 ·rw [List.take_left' (by rw [fm_len encE_len, h]), List.flatMap_def]
theorem any_take {α : Type} {q : α → Bool} {L : List α} {j : Nat} {x : α} (h : L[j]? = some x) (ha : (L.take j).any q = false) (hx : q x = false) : (L.take (j + 1)).any q = false := by
 rw [List.take_add_one, h, List.any_append, ha]; simpa using hx
theorem any_yes {α : Type} {q : α → Bool} {L : List α} {j k : Nat} {x : α} (h : L[j]? = some x) (hj : j < k) (hx : q x = true) : (L.take k).any q = true := by
 rw [List.any_eq_true]
 refine ⟨x, ?_, hx⟩
 have := (List.getElem?_eq_some_iff.1 h)
 rw [List.mem_take_iff_getElem]
 exact ⟨j, by have := this.1; omega, this.2⟩
theorem any_r {α : Type} {q : α → Bool} {L : List α} {k : Nat} (h : (L.take k).any q = true) : true = (true && L.any q) := by
 rw [List.any_eq_true] at h
 obtain ⟨x, hx, hq⟩ := h
 rw [Bool.true_and, eq_comm, List.any_eq_true]
 exact ⟨x, List.mem_of_mem_take hx, hq⟩
theorem any_f {α : Type} {q : α → Bool} {L : List α} (h : L.any q = false) : false = (true && L.any q) := by rw [h]; rfl
def lwS (L : List Ent) (f a b : Nat) (k j : Nat) : List (Nat × AV) := [(0, .d (.fs 4 (L.map encE))), (1, .fn (.func f) [] [.ptr a 0, .ptr b 0]), (7, .d (.it .i64 (k : Nat))), (8, .d (.it .i64 (j : Nat)))]
set_option maxHeartbeats 8000000 in
theorem hasE_ok {d : Option Dk} (hd : DkOK d) {I : List Ino} {E : List Ent} {R : List Bool} (h : XOK I E R) (kind k : Nat) (hk : k < 24) (h1 : 1 ≤ kind ∧ kind ≤ 5) : FnC Tryz.prog 85 [.d (.fp 209 (encX d I E R)), .d (.it .i64 (kind : Nat)), .d (.it .i64 (k : Nat))] (.d (.bl (prbP (fun k => decide (oddP d (k : Nat))) I E R kind k))) := by
 have h97 := x_d97 (d := d) h
 have h1d := x_d1 (d := d) (I := I) (E := E) (R := R)
 obtain ⟨e, he⟩ := lt_get (l := E) (k := k) (by rw [h.e]; omega)
 have hmem : e ∈ E := List.mem_of_getElem? he
 have hgd : E.getD k ent0 = e := by rw [List.getD_eq_getElem?_getD, he]; rfl
 have hE := at_E (E := E) (R := R) (n := (k : Nat)) he
 have hod := odd_ok hd I E R (k : Nat) (by omega)
 have hsn := sound_ok (d := d) h hmem
 have hxe : encE e = [.bl e.u, .it .i64 e.p, .st e.n, .it .i64 e.t] := rfl
 have hp := h.p e hmem
 have hrows := E_rows (R := R) h.e
 unfold prbP
 rw [hgd]
 have hk5 : kind = 1 ∨ kind = 2 ∨ kind = 3 ∨ kind = 4 ∨ kind = 5 := by omega
 cases hu : e.u with
 | false =>
  rw [hu] at hxe
  rw [hxe] at hE hsn
  refine FnC.intro ti_ok Tryz.func85 rfl Tryz.ntmps85 Tryz.call85 rfl (Nat.le_of_ble_eq_true rfl) rfl ?_
  rcases hk5 with rfl | rfl | rfl | rfl | rfl
  all_goals (repeat' ((conv=>whnf);first|with_reducible refine gA ?_|((with_reducible refine callE_id ?_); first | (refine CallE.con ⟨_, hod, ?_⟩) | (refine CallE.inl ?_)) | ((with_reducible refine callI_id ?_); with_reducible refine CallI.inl ti_ok i121 rfl ?_) | ((with_reducible refine atD_id ?_); first | refine AtD.eq h97 ?_ | refine AtD.eq hE ?_)|(with_reducible first|refine gB ?_|refine gZ (fun x hx hu=>?_)|refine gY (fun x hx=>?_)|refine gE ?_|refine Both.mk ?_ ?_|refine gS (fun h=>?_) (fun h=>?_)|refine Spl.nt ?_|refine Spl.mk (fun h=>?_) (fun h=>?_))))
  all_goals rfl
 | true =>
  obtain ⟨p1, p2, t1, t2⟩ := hp hu
  rw [hu] at hxe
  rw [hxe] at hE hsn
  obtain ⟨y, hy⟩ := lt_get (l := I) (k := e.t.toNat) (by rw [h.i]; omega)
  have hI := at_I (E := E) (R := R) hy
  have hyg : I.getD e.t.toNat ino0 = y := by rw [List.getD_eq_getElem?_getD, hy]; rfl
  rcases hk5 with rfl | rfl | rfl | rfl | rfl
  ·refine FnC.intro ti_ok Tryz.func85 rfl Tryz.ntmps85 Tryz.call85 rfl (Nat.le_of_ble_eq_true rfl) rfl ?_
   (repeat' ((conv=>whnf);first|with_reducible refine gA ?_|((with_reducible refine callE_id ?_); first | (refine CallE.con ⟨_, hod, ?_⟩)) | ((with_reducible refine atD_id ?_); first | refine AtD.eq h97 ?_ | refine AtD.eq hE ?_)|(with_reducible first|refine gB ?_|refine gZ (fun x hx hu=>?_)|refine gY (fun x hx=>?_)|refine gE ?_|refine Both.mk ?_ ?_|refine gS (fun h=>?_) (fun h=>?_)|refine Spl.nt ?_|refine Spl.mk (fun h=>?_) (fun h=>?_))))
   rfl
  ·rw [hyg]
   refine FnC.intro ti_ok Tryz.func85 rfl Tryz.ntmps85 Tryz.call85 rfl (Nat.le_of_ble_eq_true rfl) rfl ?_
   (repeat' ((conv=>whnf);first|with_reducible refine gA ?_|((with_reducible refine atD_id ?_); first | refine AtD.eq h97 ?_ | refine AtD.eq hE ?_ | refine AtD.eq h1d ?_ | refine AtD.eq hI ?_)|(with_reducible first|refine gB ?_|refine gZ (fun x hx hu=>?_)|refine gY (fun x hx=>?_)|refine gE ?_|refine Both.mk ?_ ?_|refine gS (fun h=>?_) (fun h=>?_)|refine Spl.nt ?_|refine Spl.mk (fun h=>?_) (fun h=>?_))))
   refine bl_eq ?_
   show (y.k == 0) = (true && decide (y.k = 0))
   rw [Bool.true_and]
   exact (by by_cases h0 : y.k = 0 <;> simp [h0])
  ·by_cases hs : sndP I R e
   all_goals first | rw [decide_eq_true hs] at hsn | rw [decide_eq_false hs] at hsn
   all_goals refine FnC.intro ti_ok Tryz.func85 rfl Tryz.ntmps85 Tryz.call85 rfl (Nat.le_of_ble_eq_true rfl) rfl ?_
   all_goals (repeat' ((conv=>whnf);first|with_reducible refine gA ?_|((with_reducible refine callE_id ?_); (refine CallE.con ⟨_, hsn, ?_⟩)) | ((with_reducible refine atD_id ?_); first | refine AtD.eq h97 ?_ | refine AtD.eq hE ?_)|(with_reducible first|refine gB ?_|refine gZ (fun x hx hu=>?_)|refine gY (fun x hx=>?_)|refine gE ?_|refine Both.mk ?_ ?_|refine gS (fun h=>?_) (fun h=>?_)|refine Spl.nt ?_|refine Spl.mk (fun h=>?_) (fun h=>?_))))
   ·rw [decide_eq_true hs]; rfl
   ·rw [decide_eq_false hs]; rfl
  ·have hlt : (E.take k).length = k := by rw [List.length_take, h.e]; omega
   have hlen : ((E.take k).map encE).length = k := by rw [List.length_map, hlt]
   refine FnC.intro ti_ok Tryz.func85 rfl Tryz.ntmps85 Tryz.call85 rfl (Nat.le_of_ble_eq_true rfl) rfl ?_
   (repeat' ((conv=>whnf);first|with_reducible refine gA ?_|((with_reducible refine callE_id ?_); (refine CallE.inl ?_)) | ((with_reducible refine callI_id ?_); first | with_reducible refine CallI.inl ti_ok i121 rfl ?_ | with_reducible refine CallI.inl ti_ok i151 rfl ?_ | with_reducible refine CallI.inl ti_ok i177 rfl ?_) | ((with_reducible refine atD_id ?_); first | refine AtD.eq h97 ?_ | refine AtD.eq hE ?_) | ((with_reducible refine slF_id ?_); refine SlF.mk ⟨E.map encE, hrows, ?_⟩) | ((with_reducible refine letE_id ?_); refine LetE.mk ((E.take k).map encE) (List.map_take) ?_)|(with_reducible first|refine gB ?_|refine gZ (fun x hx hu=>?_)|refine gY (fun x hx=>?_)|refine gE ?_|refine Both.mk ?_ ?_|refine gS (fun h=>?_) (fun h=>?_)|refine Spl.nt ?_|refine Spl.mk (fun h=>?_) (fun h=>?_))))
   refine loop_mem0 ti_ok (fun j : Nat => j ≤ k ∧ ((E.take k).take j).any (fun o => o.u && (decide (o.p = e.p) && decide (o.n = e.n))) = false) (lwS (E.take k) 152 3 4 k) (fun j => k - j) 0 ⟨Nat.zero_le _, rfl⟩ ⟨rfl, rfl, it_eq (by rw [hlen]), rfl, trivial⟩ rfl ?_
   intro j ⟨hj, ha⟩
   by_cases hjk : j < k
   ·(repeat' ((conv=>whnf);first|with_reducible refine gA ?_|((with_reducible refine callI_id ?_); first | with_reducible refine CallI.inl ti_ok i152 rfl ?_ | with_reducible refine CallI.inl ti_ok i122 rfl ?_)|(with_reducible first|refine gB ?_|refine gZ (fun x hx hu=>?_)|refine gY (fun x hx=>?_)|refine gE ?_|refine Both.mk ?_ ?_|refine gS (fun h=>?_) (fun h=>?_)|refine Spl.nt ?_|refine Spl.mk (fun h=>?_) (fun h=>?_))))
    all_goals (have hx' := hx; first
     | (refine againM0 (j + 1) ⟨hjk, any_take hx ha (by first | (simp [(by assumption : x.u = false)]; done) | (simp [(by assumption : ¬ x.p = e.p)]; done) | (simp [(by assumption : ¬ x.n = e.n)]; done))⟩ (by dsimp only; omega) (And.intro rfl (And.intro rfl (And.intro rfl (And.intro (it_eq (by omega)) trivial)))) (by (repeat (first | exact trivial | refine And.intro rfl ?_))) rfl; done)
     | (refine bl_eq (any_r (any_yes hx hjk (by simp [(by assumption : x.u = true), (by assumption : x.p = e.p), (by assumption : x.n = e.n)]))); done))
   ·have hjk2 : j = k := by omega
    rw [hjk2, List.take_of_length_le (by rw [List.length_take]; omega)] at ha
    (repeat' ((conv=>whnf);first|with_reducible refine gA ?_|(with_reducible first|refine gB ?_|refine gZ (fun x hx hu=>?_)|refine gY (fun x hx=>?_)|refine gE ?_|refine Both.mk ?_ ?_|refine gS (fun h=>?_) (fun h=>?_)|refine Spl.nt ?_|refine Spl.mk (fun h=>?_) (fun h=>?_))))
    exact bl_eq (any_f ha)
  ·have hlt : (E.take k).length = k := by rw [List.length_take, h.e]; omega
   have hlen : ((E.take k).map encE).length = k := by rw [List.length_map, hlt]
   refine FnC.intro ti_ok Tryz.func85 rfl Tryz.ntmps85 Tryz.call85 rfl (Nat.le_of_ble_eq_true rfl) rfl ?_
   (repeat' ((conv=>whnf);first|with_reducible refine gA ?_|((with_reducible refine callE_id ?_); (refine CallE.inl ?_)) | ((with_reducible refine callI_id ?_); first | with_reducible refine CallI.inl ti_ok i121 rfl ?_ | with_reducible refine CallI.inl ti_ok i151 rfl ?_ | with_reducible refine CallI.inl ti_ok i177 rfl ?_) | ((with_reducible refine atD_id ?_); first | refine AtD.eq h97 ?_ | refine AtD.eq hE ?_) | ((with_reducible refine slF_id ?_); refine SlF.mk ⟨E.map encE, hrows, ?_⟩) | ((with_reducible refine letE_id ?_); refine LetE.mk ((E.take k).map encE) (List.map_take) ?_)|(with_reducible first|refine gB ?_|refine gZ (fun x hx hu=>?_)|refine gY (fun x hx=>?_)|refine gE ?_|refine Both.mk ?_ ?_|refine gS (fun h=>?_) (fun h=>?_)|refine Spl.nt ?_|refine Spl.mk (fun h=>?_) (fun h=>?_))))
   refine loop_mem0 ti_ok (fun j : Nat => j ≤ k ∧ ((E.take k).take j).any (fun o => o.u && decide (o.t = e.t)) = false) (lwS (E.take k) 152 3 4 k) (fun j => k - j) 0 ⟨Nat.zero_le _, rfl⟩ ⟨rfl, rfl, it_eq (by rw [hlen]), rfl, trivial⟩ rfl ?_
   intro j ⟨hj, ha⟩
   by_cases hjk : j < k
   ·(repeat' ((conv=>whnf);first|with_reducible refine gA ?_|((with_reducible refine callI_id ?_); first | with_reducible refine CallI.inl ti_ok i152 rfl ?_ | with_reducible refine CallI.inl ti_ok i123 rfl ?_)|(with_reducible first|refine gB ?_|refine gZ (fun x hx hu=>?_)|refine gY (fun x hx=>?_)|refine gE ?_|refine Both.mk ?_ ?_|refine gS (fun h=>?_) (fun h=>?_)|refine Spl.nt ?_|refine Spl.mk (fun h=>?_) (fun h=>?_))))
    all_goals (have hx' := hx; first
     | (refine againM0 (j + 1) ⟨hjk, any_take hx ha (by first | (simp [(by assumption : x.u = false)]; done) | (simp [(by assumption : ¬ x.t = e.t)]; done))⟩ (by dsimp only; omega) (And.intro rfl (And.intro rfl (And.intro rfl (And.intro (it_eq (by omega)) trivial)))) (by (repeat (first | exact trivial | refine And.intro rfl ?_))) rfl; done)
     | (refine bl_eq (any_r (any_yes hx hjk (by simp [(by assumption : x.u = true), (by assumption : x.t = e.t)]))); done))
   ·have hjk2 : j = k := by omega
    rw [hjk2, List.take_of_length_le (by rw [List.length_take]; omega)] at ha
    (repeat' ((conv=>whnf);first|with_reducible refine gA ?_|(with_reducible first|refine gB ?_|refine gZ (fun x hx hu=>?_)|refine gY (fun x hx=>?_)|refine gE ?_|refine Both.mk ?_ ?_|refine gS (fun h=>?_) (fun h=>?_)|refine Spl.nt ?_|refine Spl.mk (fun h=>?_) (fun h=>?_))))
    exact bl_eq (any_f ha)
end Go.Proofs.YtmfokpfddponjaaGreatDoor
namespace Go.Proofs.YtmfokpfddponjaaGreatDoor
open Go.Sy
theorem xE_at (f : Int → List UInt8) {k : Nat} (h : k < 24) : (xE f 24)[k]? = some (entAt f (k : Nat)) := by
 have h1 : k < (xE f 24).length := by rw [xE_len]; omega
 rw [List.getElem?_eq_getElem h1, xE_get, if_pos h]
theorem xE_getD (f : Int → List UInt8) {k : Nat} (h : k < 24) : (xE f 24).getD k ent0 = entAt f (k : Nat) := by rw [List.getD_eq_getElem?_getD, xE_at f h]; rfl
section
variable {R : List Bool} {n : Nat} {b : Bool} {ty : Ty} {off i j : Nat}
end
end Go.Proofs.YtmfokpfddponjaaGreatDoor
namespace Go.Proofs.YtmfokpfddponjaaGreatDoor
open Go.Sy
end Go.Proofs.YtmfokpfddponjaaGreatDoor
namespace Go.Proofs.YtmfokpfddponjaaGreatDoor
open Go.Sy
def encP (x : Int × Int) : List D := [.it .i64 x.1, .it .i64 x.2]
def probs (od : Nat → Bool) (I : List Ino) (E : List Ent) (own : Nat → Nat) : List (Int × Int) := prbK (prbP od I E (reachR (kdI I) E)) 120 ++ prbB own 24
def s1 (a : Nat) (i : Nat) : List (Nat × AV) := [(a, .d (.it .i64 ((i + 1 : Nat) : Nat)))]
def s2 (i k : Nat) : List (Nat × AV) := [(5, .d (.it .i64 ((i + 1 : Nat) : Nat))), (6, .d (.it .i64 (k : Nat)))]
theorem map_encP (L : List (Int × Int)) (x : Int × Int) : (L ++ [x]).map encP = L.map encP ++ [encP x] := by rw [List.map_append]; rfl
end Go.Proofs.YtmfokpfddponjaaGreatDoor
namespace Go.Proofs.YtmfokpfddponjaaGreatDoor
open Go.Sy
def dod (d : Option Dk) (k : Nat) : Bool := decide (oddP d (k : Nat))
def ckA (F : Func) (d : Option Dk) (I : List Ino) (E : List Ent) (R : List Bool) (sl : List (Nat × AV)) (L : List (Int × Int)) : S := ⟨(0, .yld 9) :: (1, .ptr 2 0) :: sl, [(9, rgL 8 F), (8, .frame 14 [(2, .ptr 6 0)]), (6, .cells 1 [.ts 2 (L.map encP) 10]), (10, .tail 100 true), (5, .frame 6 []), (3, .frame 8 []), (2, .cells 1 [.d (.fp 209 (encX d I E R))])], 11⟩
def c1 (a i : Nat) : List (Nat × AV) := [(a, .d (.it .i64 ((i + 1 : Nat) : Nat)))]
def c2 (i k : Nat) : List (Nat × AV) := [(3, .d (.it .i64 ((i + 1 : Nat) : Nat))), (10, .d (.it .i64 (k : Nat)))]
theorem wk_trC {N : Nat} {σ τ τ' : S} (e : τ' = τ) (h : Wk N σ τ') : Wk N σ τ := by rw [← e]; exact h
theorem cells_ts2 {a b : List (List D)} (h : a = b) : some (Ob.cells 1 [.ts 2 a 10]) = some (Ob.cells 1 [.ts 2 b 10]) := by rw [h]
set_option maxHeartbeats 8000000 in
theorem check_ok (d : Option Dk) (hd : DkOK d) : FnC Tryz.prog 36 [.d (encD d)] (.d (.fs 2 ((probs (dod d) (xI (rdS d) 16) (xE (rdS d) 24) (fun b => ownK (fun i => (xI (rdS d) 16).getD i ino0) (fun i => decide (takP (rdS d) (i : Nat))) (b : Nat) 16)).map encP))) := by
 have hr := xread_ok d hd
 have hl : (reachR (kdI (xI (rdS d) 16)) (xE (rdS d) 24)).length = 16 := by unfold reachR; rw [iterR_len]; rfl
 have hx := xok_L (rdS d) 16 24 hl
 have hent := fun kind k hk h1 => hasE_ok hd hx kind k hk h1
 have hown := fun b => own_ok hd hx b
 unfold probs
 have hdod : (fun k => decide (oddP d (k : Nat))) = dod d := rfl
 rw [hdod] at hent
 generalize hRR : reachR (kdI (xI (rdS d) 16)) (xE (rdS d) 24) = R at *
 generalize hII : xI (rdS d) 16 = I at *
 generalize hEE : xE (rdS d) 24 = E at *
 generalize prbP (dod d) I E R = P at *
 have hPl := fun q => prbK_len P q
 have hBl := fun q => prbB_len (fun b => ownK (fun i => I.getD i ino0) (fun i => decide (takP (rdS d) (i : Nat))) (b : Nat) 16) q
 have hMl : ∀ L : List (Int × Int), (L.map encP).length = L.length := fun L => List.length_map ..
 refine FnC.intro ti_ok Tryz.func36 rfl Tryz.ntmps36 Tryz.call36 rfl (Nat.le_of_ble_eq_true rfl) rfl ?_
 (repeat' ((conv=>whnf);first|with_reducible refine gA ?_|((with_reducible refine callE_id ?_); first | (refine CallE.con ⟨_, hr, ?_⟩) | refine CallE.inl ?_) | ((with_reducible refine callI_id ?_); first | with_reducible refine CallI.inl ti_ok i63 rfl ?_ | with_reducible refine CallI.inl ti_ok i61 rfl ?_ | refine CallI.inlN 2 ti_ok i82 rfl rfl rfl rfl ?_)|(with_reducible first|refine gB ?_|refine gZ (fun x hx hu=>?_)|refine gY (fun x hx=>?_)|refine gE ?_|refine Both.mk ?_ ?_|refine gS (fun h=>?_) (fun h=>?_)|refine Spl.nt ?_|refine Spl.mk (fun h=>?_) (fun h=>?_))))
 refine RangeS.intro ti_ok i84 rfl rfl ?_
 (repeat' ((conv=>whnf);first|with_reducible refine gA ?_|(with_reducible first|refine gB ?_|refine gZ (fun x hx hu=>?_)|refine gY (fun x hx=>?_)|refine gE ?_|refine Both.mk ?_ ?_|refine gS (fun h=>?_) (fun h=>?_)|refine Spl.nt ?_|refine Spl.mk (fun h=>?_) (fun h=>?_))))
 conv => whnf
 refine LoopS.wk (Wk.nlTs 6 0 1 2 100 (by with_unfolding_all exact rfl) (by with_unfolding_all exact rfl)) ?_
 refine LoopS.wk (τ := ckA Tryz.f82 d I E R (c1 3 0) []) (Wk.enF (And.intro rfl (And.intro rfl (And.intro rfl trivial))) (by (repeat (first | exact trivial | refine And.intro (obw_eq rfl (by with_unfolding_all exact rfl)) ?_ | refine And.intro (obw_fr (by with_unfolding_all exact rfl) (by (repeat (first | exact trivial | refine And.intro (by with_unfolding_all exact rfl) ?_)))) ?_))) rfl) ?_
 refine loop_ruleW ti_ok (fun i : Nat => i ≤ 5) (fun i => ckA Tryz.f82 d I E R (c1 3 i) (prbK P (24 * i))) (fun i => 5 - i) 0 (Nat.zero_le _) (Wk.en ⟨And.intro rfl (And.intro rfl (And.intro rfl trivial)), (by (repeat (first | exact trivial | refine And.intro rfl ?_))), rfl⟩) ?_
 intro i hi
 by_cases hi5 : i < 5
 ·(repeat' ((conv=>whnf);first|with_reducible refine gA ?_|(with_reducible first|refine gB ?_|refine gZ (fun x hx hu=>?_)|refine gY (fun x hx=>?_)|refine gE ?_|refine Both.mk ?_ ?_|refine gS (fun h=>?_) (fun h=>?_)|refine Spl.nt ?_|refine Spl.mk (fun h=>?_) (fun h=>?_))))
  conv => whnf
  refine loop_ruleW ti_ok (fun k : Nat => k ≤ 24) (fun k => ckA Tryz.f82 d I E R (c2 i k) (prbK P (24 * i + k))) (fun k => 24 - k) 0 (Nat.zero_le _) (Wk.enF (And.intro rfl (And.intro rfl (And.intro rfl (And.intro rfl trivial)))) (by (repeat (first | exact trivial | refine And.intro (obw_eq rfl (by with_unfolding_all exact rfl)) ?_ | refine And.intro (obw_fr (by with_unfolding_all exact rfl) (by (repeat (first | exact trivial | refine And.intro (by with_unfolding_all exact rfl) ?_)))) ?_))) rfl) ?_
  intro k hk
  by_cases hk24 : k < 24
  ·have hek := hent (i + 1) k hk24 (by omega)
   have h1 := hPl (24 * i + k)
   have h2 := hMl (prbK P (24 * i + k))
   by_cases hP : P (i + 1) k = false
   ·have hno := prbK_no (P := P) hk24 hP
    rw [hP] at hek
    (repeat' ((conv=>whnf);first|with_reducible refine gA ?_|((with_reducible refine callE_id ?_); (refine CallE.con ⟨_, hek, ?_⟩))|(with_reducible first|refine gB ?_|refine gZ (fun x hx hu=>?_)|refine gY (fun x hx=>?_)|refine gE ?_|refine Both.mk ?_ ?_|refine gS (fun h=>?_) (fun h=>?_)|refine Spl.nt ?_|refine Spl.mk (fun h=>?_) (fun h=>?_))))
    refine ⟨k + 1, hk24, by first | omega | (dsimp only; omega), wk_trC (congrArg (ckA Tryz.f82 d I E R (c2 i (k + 1))) hno.symm) (Wk.enF (And.intro rfl (And.intro rfl (And.intro rfl (And.intro (it_eq (by omega)) trivial)))) (by (repeat (first | exact trivial | refine And.intro (obw_eq rfl (by with_unfolding_all exact rfl)) ?_ | refine And.intro (obw_fr (by with_unfolding_all exact rfl) (by (repeat (first | exact trivial | refine And.intro (by with_unfolding_all exact rfl) ?_)))) ?_))) rfl)⟩
   ·have hP : P (i + 1) k = true := by simpa using hP
    have hyes := prbK_yes (P := P) hk24 hP
    rw [hP] at hek
    (repeat' ((conv=>whnf);first|with_reducible refine gA ?_|((with_reducible refine callE_id ?_); (refine CallE.con ⟨_, hek, ?_⟩)) | with_reducible refine YieldI.intro ti_ok (by with_unfolding_all exact rfl) (by with_unfolding_all exact rfl) (by with_unfolding_all exact rfl) ?_|(with_reducible first|refine gB ?_|refine gZ (fun x hx hu=>?_)|refine gY (fun x hx=>?_)|refine gE ?_|refine Both.mk ?_ ?_|refine gS (fun h=>?_) (fun h=>?_)|refine Spl.nt ?_|refine Spl.mk (fun h=>?_) (fun h=>?_))))
    refine ⟨k + 1, hk24, by first | omega | (dsimp only; omega), wk_trC (congrArg (ckA Tryz.f82 d I E R (c2 i (k + 1))) hyes.symm) (Wk.enF (And.intro rfl (And.intro rfl (And.intro rfl (And.intro (it_eq (by omega)) trivial)))) (And.intro (obw_eq rfl rfl) (And.intro (obw_fr rfl (And.intro rfl trivial)) (And.intro (obw_eq rfl (cells_ts2 ?_)) (And.intro (obw_eq rfl rfl) (And.intro (obw_fr rfl trivial) (And.intro (obw_fr rfl trivial) (And.intro (obw_eq rfl rfl) trivial))))))) rfl)⟩
    rw [map_encP]; rfl
  ·have hke : k = 24 := by omega
   (repeat' ((conv=>whnf);first|with_reducible refine gA ?_|(with_reducible first|refine gB ?_|refine gZ (fun x hx hu=>?_)|refine gY (fun x hx=>?_)|refine gE ?_|refine Both.mk ?_ ?_|refine gS (fun h=>?_) (fun h=>?_)|refine Spl.nt ?_|refine Spl.mk (fun h=>?_) (fun h=>?_))))
   refine ⟨i + 1, hi5, by first | omega | (dsimp only; omega), wk_trC (congrArg (ckA Tryz.f82 d I E R (c1 3 (i + 1))) (congrArg (prbK P) (show 24 * i + k = 24 * (i + 1) by omega))) (Wk.enF (And.intro rfl (And.intro rfl (And.intro (it_eq (by omega)) trivial))) (by (repeat (first | exact trivial | refine And.intro (obw_eq rfl (by with_unfolding_all exact rfl)) ?_ | refine And.intro (obw_fr (by with_unfolding_all exact rfl) (by (repeat (first | exact trivial | refine And.intro (by with_unfolding_all exact rfl) ?_)))) ?_))) rfl)⟩
 ·have hie : i = 5 := by omega
  rw [hie]
  (repeat' ((conv=>whnf);first|with_reducible refine gA ?_|(with_reducible first|refine gB ?_|refine gZ (fun x hx hu=>?_)|refine gY (fun x hx=>?_)|refine gE ?_|refine Both.mk ?_ ?_|refine gS (fun h=>?_) (fun h=>?_)|refine Spl.nt ?_|refine Spl.mk (fun h=>?_) (fun h=>?_))))
  conv => whnf
  refine loop_ruleW ti_ok (fun q : Nat => q ≤ 24) (fun q => ckA Tryz.f82 d I E R (c1 5 q) (prbK P 120 ++ prbB (fun b => ownK (fun i => I.getD i ino0) (fun i => decide (takP (rdS d) (i : Nat))) (b : Nat) 16) q)) (fun q => 24 - q) 0 (Nat.zero_le _) (wk_trC (congrArg (ckA Tryz.f82 d I E R (c1 5 0)) (show prbK P 120 = prbK P 120 ++ prbB (fun b => ownK (fun i => I.getD i ino0) (fun i => decide (takP (rdS d) (i : Nat))) (b : Nat) 16) 0 by rw [show prbB (fun b => ownK (fun i => I.getD i ino0) (fun i => decide (takP (rdS d) (i : Nat))) (b : Nat) 16) 0 = [] from rfl, List.append_nil])) (Wk.enF (And.intro rfl (And.intro rfl (And.intro rfl trivial))) (by (repeat (first | exact trivial | refine And.intro (obw_eq rfl (by with_unfolding_all exact rfl)) ?_ | refine And.intro (obw_fr (by with_unfolding_all exact rfl) (by (repeat (first | exact trivial | refine And.intro (by with_unfolding_all exact rfl) ?_)))) ?_))) rfl)) ?_
  intro q hq
  by_cases hq24 : q < 24
  ·have how := hown ((q + 1 : Nat) : Int)
   have h1 := hPl 120
   have h3 := hBl q
   have h2 := hMl (prbK P 120 ++ prbB (fun b => ownK (fun i => I.getD i ino0) (fun i => decide (takP (rdS d) (i : Nat))) (b : Nat) 16) q)
   rw [List.length_append] at h2
   have hle := ownK_le (fun i => I.getD i ino0) (fun i => decide (takP (rdS d) (i : Nat))) ((q + 1 : Nat) : Int) 16
   have hyes := prbB_yes (own := (fun b => ownK (fun i => I.getD i ino0) (fun i => decide (takP (rdS d) (i : Nat))) (b : Nat) 16)) (k := q)
   have hno := prbB_no (own := (fun b => ownK (fun i => I.getD i ino0) (fun i => decide (takP (rdS d) (i : Nat))) (b : Nat) 16)) (k := q)
   by_cases ho : 1 < ownK (fun i => I.getD i ino0) (fun i => decide (takP (rdS d) (i : Nat))) ((q + 1 : Nat) : Int) 16
   ·(repeat' ((conv=>whnf);first|with_reducible refine gA ?_|((with_reducible refine callE_id ?_); (refine CallE.con ⟨_, how, ?_⟩)) | with_reducible refine YieldI.intro ti_ok (by with_unfolding_all exact rfl) (by with_unfolding_all exact rfl) (by with_unfolding_all exact rfl) ?_|(with_reducible first|refine gB ?_|refine gZ (fun x hx hu=>?_)|refine gY (fun x hx=>?_)|refine gE ?_|refine Both.mk ?_ ?_|refine gS (fun h=>?_) (fun h=>?_)|refine Spl.nt ?_|refine Spl.mk (fun h=>?_) (fun h=>?_))))
    refine ⟨q + 1, hq24, by first | omega | (dsimp only; omega), wk_trC (congrArg (ckA Tryz.f82 d I E R (c1 5 (q + 1))) ((List.append_assoc _ _ _).trans (congrArg (prbK P 120 ++ ·) (hyes ho).symm))) (Wk.enF (And.intro rfl (And.intro rfl (And.intro (it_eq (by omega)) trivial))) (And.intro (obw_eq rfl rfl) (And.intro (obw_fr rfl (And.intro rfl trivial)) (And.intro (obw_eq rfl (cells_ts2 ?_)) (And.intro (obw_eq rfl rfl) (And.intro (obw_fr rfl trivial) (And.intro (obw_fr rfl trivial) (And.intro (obw_eq rfl rfl) trivial))))))) rfl)⟩
    rw [map_encP]; rfl
   ·(repeat' ((conv=>whnf);first|with_reducible refine gA ?_|((with_reducible refine callE_id ?_); (refine CallE.con ⟨_, how, ?_⟩))|(with_reducible first|refine gB ?_|refine gZ (fun x hx hu=>?_)|refine gY (fun x hx=>?_)|refine gE ?_|refine Both.mk ?_ ?_|refine gS (fun h=>?_) (fun h=>?_)|refine Spl.nt ?_|refine Spl.mk (fun h=>?_) (fun h=>?_))))
    refine ⟨q + 1, hq24, by first | omega | (dsimp only; omega), wk_trC (congrArg (ckA Tryz.f82 d I E R (c1 5 (q + 1))) (congrArg (prbK P 120 ++ ·) (hno ho).symm)) (Wk.enF (And.intro rfl (And.intro rfl (And.intro (it_eq (by omega)) trivial))) (by (repeat (first | exact trivial | refine And.intro (obw_eq rfl (by with_unfolding_all exact rfl)) ?_ | refine And.intro (obw_fr (by with_unfolding_all exact rfl) (by (repeat (first | exact trivial | refine And.intro (by with_unfolding_all exact rfl) ?_)))) ?_))) rfl)⟩
  ·have hqe : q = 24 := by omega
   rw [hqe]
   (repeat' ((conv=>whnf);first|with_reducible refine gA ?_|(with_reducible first|refine gB ?_|refine gZ (fun x hx hu=>?_)|refine gY (fun x hx=>?_)|refine gE ?_|refine Both.mk ?_ ?_|refine gS (fun h=>?_) (fun h=>?_)|refine Spl.nt ?_|refine Spl.mk (fun h=>?_) (fun h=>?_))))
   rfl
end Go.Proofs.YtmfokpfddponjaaGreatDoor
namespace Go.Proofs.YtmfokpfddponjaaGreatDoor
open Go.Sy
def dOwn (d : Option Dk) (b : Nat) : Nat := ownK (fun i => (xI (rdS d) 16).getD i ino0) (fun i => decide (takP (rdS d) (i : Nat))) (b : Nat) 16
theorem prbK_ne {P : Nat → Nat → Bool} {i k : Nat} (hi : i < 5) (hk : k < 24) (h : P (i + 1) k = true) : prbK P 120 ≠ [] := fun q => by
 unfold prbK at q
 have hm : 24 * i + k ∈ (List.range 120).filter fun j => P (j / 24 + 1) (j % 24) := by
  rw [List.mem_filter]
  refine ⟨List.mem_range.2 (by omega), ?_⟩
  rw [show (24 * i + k) / 24 = i by omega, show (24 * i + k) % 24 = k by omega]
  exact h
 rw [List.map_eq_nil_iff.1 q] at hm
 cases hm
end Go.Proofs.YtmfokpfddponjaaGreatDoor
