/- Contracts of the functions that the law reaches, and the law. Conditions: none. -/
import Derived.Test.YtajeadkdacgldaaGreatDoorKB
set_option linter.all false
/- Operations on values: the walks. Conditions: none. -/
namespace Go.Proofs.YtajeadkdacgldaaGreatDoor
open Go.Sy
set_option maxRecDepth 100000
set_option linter.all false
theorem in64_b (n : Int) : -1000000000000 ≤ in64 n ∧ in64 n ≤ 1000000000000 := by unfold in64; omega
theorem numIn_ok (n : Int) : FnC Tryz.prog 40 [.d (.it .i64 n)] (.d (.it .i64 (in64 n))) := by
  refine FnC.intro ti_ok Tryz.func40 rfl Tryz.ntmps40 Tryz.call40 rfl (Nat.le_of_ble_eq_true rfl) rfl ?_
  (repeat' ((conv=>whnf);first|with_reducible refine gA ?_|with_reducible refine LetI.nm (fun z hz => ?_)|(with_reducible first|refine gB ?_|refine gZ (fun x hx hu=>?_)|refine gY (fun x hx=>?_)|refine gE ?_|refine Both.mk ?_ ?_|refine gS (fun h=>?_) (fun h=>?_)|refine Spl.nt ?_|refine Spl.mk (fun h=>?_) (fun h=>?_))))
  refine it_eq ?_
  unfold in64
  split at * <;> split at * <;> omega
theorem refIn_ok (n : Int) : FnC Tryz.prog 41 [.d (.it .i64 n)] (.d (.it .i64 (in64 n))) := by
  refine FnC.intro ti_ok Tryz.func41 rfl Tryz.ntmps41 Tryz.call41 rfl (Nat.le_of_ble_eq_true rfl) rfl ?_
  (repeat' ((conv=>whnf);first|with_reducible refine gA ?_|with_reducible refine LetI.nm (fun z hz => ?_)|(with_reducible first|refine gB ?_|refine gZ (fun x hx hu=>?_)|refine gY (fun x hx=>?_)|refine gE ?_|refine Both.mk ?_ ?_|refine gS (fun h=>?_) (fun h=>?_)|refine Spl.nt ?_|refine Spl.mk (fun h=>?_) (fun h=>?_))))
  refine it_eq ?_
  unfold in64
  split at * <;> split at * <;> omega
theorem numAdd_ok (a b : Int) : FnC Tryz.prog 39 [.d (.it .i64 a), .d (.it .i64 b)] (.d (.it .i64 (add64 a b))) := by
  have h1 := numIn_ok a
  have h2 := numIn_ok b
  have b1 := in64_b a
  have b2 := in64_b b
  have h3 := numIn_ok (in64 a + in64 b)
  unfold add64
  generalize in64 (in64 a + in64 b) = z at *
  generalize in64 a = x at *
  generalize in64 b = y at *
  refine FnC.intro ti_ok Tryz.func39 rfl Tryz.ntmps39 Tryz.call39 rfl (Nat.le_of_ble_eq_true rfl) rfl ?_
  (repeat' ((conv=>whnf);first|with_reducible refine gA ?_|((with_reducible refine callE_id ?_); first | refine CallE.con ⟨_, h1, ?_⟩ | refine CallE.con ⟨_, h2, ?_⟩ | refine CallE.con ⟨_, h3, ?_⟩) | refine CallP.mk ⟨_, h1, ?_⟩ | refine CallP.mk ⟨_, h2, ?_⟩ | refine CallP.mk ⟨_, h3, ?_⟩|(with_reducible first|refine gB ?_|refine gZ (fun x hx hu=>?_)|refine gY (fun x hx=>?_)|refine gE ?_|refine Both.mk ?_ ?_|refine gS (fun h=>?_) (fun h=>?_)|refine Spl.nt ?_|refine Spl.mk (fun h=>?_) (fun h=>?_))))
  all_goals rfl
theorem numSub_ok (a b : Int) : FnC Tryz.prog 24 [.d (.it .i64 a), .d (.it .i64 b)] (.d (.it .i64 (sub64 a b))) := by
  have h1 := numIn_ok a
  have h2 := numIn_ok b
  have b1 := in64_b a
  have b2 := in64_b b
  have h3 := numIn_ok (in64 a - in64 b)
  unfold sub64
  generalize in64 (in64 a - in64 b) = z at *
  generalize in64 a = x at *
  generalize in64 b = y at *
  refine FnC.intro ti_ok Tryz.func24 rfl Tryz.ntmps24 Tryz.call24 rfl (Nat.le_of_ble_eq_true rfl) rfl ?_
  (repeat' ((conv=>whnf);first|with_reducible refine gA ?_|((with_reducible refine callE_id ?_); first | refine CallE.con ⟨_, h1, ?_⟩ | refine CallE.con ⟨_, h2, ?_⟩ | refine CallE.con ⟨_, h3, ?_⟩) | refine CallP.mk ⟨_, h1, ?_⟩ | refine CallP.mk ⟨_, h2, ?_⟩ | refine CallP.mk ⟨_, h3, ?_⟩|(with_reducible first|refine gB ?_|refine gZ (fun x hx hu=>?_)|refine gY (fun x hx=>?_)|refine gE ?_|refine Both.mk ?_ ?_|refine gS (fun h=>?_) (fun h=>?_)|refine Spl.nt ?_|refine Spl.mk (fun h=>?_) (fun h=>?_))))
  all_goals rfl
theorem refAdd_ok (a b : Int) : FnC Tryz.prog 27 [.d (.it .i64 a), .d (.it .i64 b)] (.d (.it .i64 (add64 a b))) := by
  have h1 := refIn_ok a
  have h2 := refIn_ok b
  have b1 := in64_b a
  have b2 := in64_b b
  have h3 := refIn_ok (in64 a + in64 b)
  unfold add64
  generalize in64 (in64 a + in64 b) = z at *
  generalize in64 a = x at *
  generalize in64 b = y at *
  refine FnC.intro ti_ok Tryz.func27 rfl Tryz.ntmps27 Tryz.call27 rfl (Nat.le_of_ble_eq_true rfl) rfl ?_
  (repeat' ((conv=>whnf);first|with_reducible refine gA ?_|((with_reducible refine callE_id ?_); first | refine CallE.con ⟨_, h1, ?_⟩ | refine CallE.con ⟨_, h2, ?_⟩ | refine CallE.con ⟨_, h3, ?_⟩) | refine CallP.mk ⟨_, h1, ?_⟩ | refine CallP.mk ⟨_, h2, ?_⟩ | refine CallP.mk ⟨_, h3, ?_⟩|(with_reducible first|refine gB ?_|refine gZ (fun x hx hu=>?_)|refine gY (fun x hx=>?_)|refine gE ?_|refine Both.mk ?_ ?_|refine gS (fun h=>?_) (fun h=>?_)|refine Spl.nt ?_|refine Spl.mk (fun h=>?_) (fun h=>?_))))
  all_goals rfl
theorem refSub_ok (a b : Int) : FnC Tryz.prog 28 [.d (.it .i64 a), .d (.it .i64 b)] (.d (.it .i64 (sub64 a b))) := by
  have h1 := refIn_ok a
  have h2 := refIn_ok b
  have b1 := in64_b a
  have b2 := in64_b b
  have h3 := refIn_ok (in64 a - in64 b)
  unfold sub64
  generalize in64 (in64 a - in64 b) = z at *
  generalize in64 a = x at *
  generalize in64 b = y at *
  refine FnC.intro ti_ok Tryz.func28 rfl Tryz.ntmps28 Tryz.call28 rfl (Nat.le_of_ble_eq_true rfl) rfl ?_
  (repeat' ((conv=>whnf);first|with_reducible refine gA ?_|((with_reducible refine callE_id ?_); first | refine CallE.con ⟨_, h1, ?_⟩ | refine CallE.con ⟨_, h2, ?_⟩ | refine CallE.con ⟨_, h3, ?_⟩) | refine CallP.mk ⟨_, h1, ?_⟩ | refine CallP.mk ⟨_, h2, ?_⟩ | refine CallP.mk ⟨_, h3, ?_⟩|(with_reducible first|refine gB ?_|refine gZ (fun x hx hu=>?_)|refine gY (fun x hx=>?_)|refine gE ?_|refine Both.mk ?_ ?_|refine gS (fun h=>?_) (fun h=>?_)|refine Spl.nt ?_|refine Spl.mk (fun h=>?_) (fun h=>?_))))
  all_goals rfl
theorem vInt_ok (n : Int) : FnC Tryz.prog 9 [.d (.it .i64 n)] (.dg 3 (encVl (intV n))) := by
  refine FnC.intro ti_ok Tryz.func9 rfl Tryz.ntmps9 Tryz.call9 rfl (Nat.le_of_ble_eq_true rfl) rfl ?_
  (repeat' ((conv=>whnf);first|with_reducible refine gA ?_|(with_reducible first|refine gB ?_|refine gZ (fun x hx hu=>?_)|refine gY (fun x hx=>?_)|refine gE ?_|refine Both.mk ?_ ?_|refine gS (fun h=>?_) (fun h=>?_)|refine Spl.nt ?_|refine Spl.mk (fun h=>?_) (fun h=>?_))))
  rfl
theorem vText_ok (s : List UInt8) : FnC Tryz.prog 11 [.d (.st s)] (.dg 3 (encVl (textV s))) := by
  refine FnC.intro ti_ok Tryz.func11 rfl Tryz.ntmps11 Tryz.call11 rfl (Nat.le_of_ble_eq_true rfl) rfl ?_
  (repeat' ((conv=>whnf);first|with_reducible refine gA ?_|(with_reducible first|refine gB ?_|refine gZ (fun x hx hu=>?_)|refine gY (fun x hx=>?_)|refine gE ?_|refine Both.mk ?_ ?_|refine gS (fun h=>?_) (fun h=>?_)|refine Spl.nt ?_|refine Spl.mk (fun h=>?_) (fun h=>?_))))
  rfl
theorem vBool_ok (b : Bool) : FnC Tryz.prog 13 [.d (.bl b)] (.dg 3 (encVl (boolV b))) := by
  refine FnC.intro ti_ok Tryz.func13 rfl Tryz.ntmps13 Tryz.call13 rfl (Nat.le_of_ble_eq_true rfl) rfl ?_
  cases b <;> (repeat' ((conv=>whnf);first|with_reducible refine gA ?_|(with_reducible first|refine gB ?_|refine gZ (fun x hx hu=>?_)|refine gY (fun x hx=>?_)|refine gE ?_|refine Both.mk ?_ ?_|refine gS (fun h=>?_) (fun h=>?_)|refine Spl.nt ?_|refine Spl.mk (fun h=>?_) (fun h=>?_))))
  all_goals rfl
theorem rInt_ok (n : Int) : FnC Tryz.prog 10 [.d (.it .i64 n)] (.dg 3 (encVl (intV n))) := by
  refine FnC.intro ti_ok Tryz.func10 rfl Tryz.ntmps10 Tryz.call10 rfl (Nat.le_of_ble_eq_true rfl) rfl ?_
  (repeat' ((conv=>whnf);first|with_reducible refine gA ?_|(with_reducible first|refine gB ?_|refine gZ (fun x hx hu=>?_)|refine gY (fun x hx=>?_)|refine gE ?_|refine Both.mk ?_ ?_|refine gS (fun h=>?_) (fun h=>?_)|refine Spl.nt ?_|refine Spl.mk (fun h=>?_) (fun h=>?_))))
  rfl
theorem rText_ok (s : List UInt8) : FnC Tryz.prog 12 [.d (.st s)] (.dg 3 (encVl (textV s))) := by
  refine FnC.intro ti_ok Tryz.func12 rfl Tryz.ntmps12 Tryz.call12 rfl (Nat.le_of_ble_eq_true rfl) rfl ?_
  (repeat' ((conv=>whnf);first|with_reducible refine gA ?_|(with_reducible first|refine gB ?_|refine gZ (fun x hx hu=>?_)|refine gY (fun x hx=>?_)|refine gE ?_|refine Both.mk ?_ ?_|refine gS (fun h=>?_) (fun h=>?_)|refine Spl.nt ?_|refine Spl.mk (fun h=>?_) (fun h=>?_))))
  rfl
theorem rBool_ok (b : Bool) : FnC Tryz.prog 14 [.d (.bl b)] (.dg 3 (encVl (boolV b))) := by
  refine FnC.intro ti_ok Tryz.func14 rfl Tryz.ntmps14 Tryz.call14 rfl (Nat.le_of_ble_eq_true rfl) rfl ?_
  cases b <;> (repeat' ((conv=>whnf);first|with_reducible refine gA ?_|(with_reducible first|refine gB ?_|refine gZ (fun x hx hu=>?_)|refine gY (fun x hx=>?_)|refine gE ?_|refine Both.mk ?_ ?_|refine gS (fun h=>?_) (fun h=>?_)|refine Spl.nt ?_|refine Spl.mk (fun h=>?_) (fun h=>?_))))
  all_goals rfl
end Go.Proofs.YtajeadkdacgldaaGreatDoor

/- Operations on values: sums, comparisons. Conditions: none. -/
namespace Go.Proofs.YtajeadkdacgldaaGreatDoor
open Go.Sy
set_option maxRecDepth 100000
set_option linter.all false
def encZ (z : Int) : List D := [.it .i64 z]
def idxI (l : List Int) (v : Int) : Int := if v ∈ l then (l.idxOf v : Nat) else -1
theorem idx_at : ∀ (l : List Int) (k : Nat) (v : Int), l[k]? = some v → v ∉ l.take k → l.idxOf v = k
  | [], k, v, h, _ => by simp at h
  | x :: t, 0, v, h, _ => by
    simp only [List.getElem?_cons_zero, Option.some.injEq] at h
    subst h
    exact List.idxOf_cons_self
  | x :: t, k + 1, v, h, hn => by
    rw [List.take_succ_cons, List.mem_cons, not_or] at hn
    rw [List.getElem?_cons_succ] at h
    have ih := idx_at t k v h hn.2
    rw [List.idxOf_cons, beq_eq_false_iff_ne.2 (fun e => hn.1 e.symm), cond_false, ih]
theorem idxZ_ok (l : List Int) (v : Int) (hl : l.length ≤ 1000) : FnC Tryz.prog 64 [.d (.fs 1 (l.map encZ)), .d (.it .i64 v)] (.d (.it .i64 (idxI l v))) := by
  have hml : (l.map encZ).length = l.length := List.length_map ..
  refine FnC.intro ti_ok Tryz.func64 rfl Tryz.ntmps64 Tryz.call64 rfl (Nat.le_of_ble_eq_true rfl) rfl ?_
  (repeat' ((conv=>whnf);first|with_reducible refine gA ?_|(with_reducible first|refine gB ?_|refine gZ (fun x hx hu=>?_)|refine gY (fun x hx=>?_)|refine gE ?_|refine Both.mk ?_ ?_|refine gS (fun h=>?_) (fun h=>?_)|refine Spl.nt ?_|refine Spl.mk (fun h=>?_) (fun h=>?_))))
  refine loop_rule ti_ok (fun k : Nat => k ≤ l.length ∧ v ∉ l.take k) (fun k => ⟨[(0, .d (.fs 1 (l.map encZ))), (1, .d (.it .i64 v)), (7, .d (.it .i64 (l.length : Nat))), (8, .d (.it .i64 k))], [], 0⟩) (fun k => l.length - k) 0 ⟨Nat.zero_le _, by simp⟩ ⟨And.intro rfl (And.intro rfl (And.intro (it_eq (by rw [hml])) (And.intro rfl trivial))), trivial, rfl⟩ ?_
  intro k ⟨k1, k2⟩
  rcases Nat.lt_or_ge k l.length with hkl | hkl
  · obtain ⟨x, hx⟩ := lt_get hkl
    (repeat' ((conv=>whnf);first|with_reducible refine gA ?_|with_reducible refine at_known hx ?_|(with_reducible first|refine gB ?_|refine gZ (fun x hx hu=>?_)|refine gY (fun x hx=>?_)|refine gE ?_|refine Both.mk ?_ ?_|refine gS (fun h=>?_) (fun h=>?_)|refine Spl.nt ?_|refine Spl.mk (fun h=>?_) (fun h=>?_))))
    · have hv : v = x := h
      subst hv
      refine it_eq ?_
      unfold idxI
      rw [if_pos (List.mem_of_getElem? hx), idx_at l k v hx k2]
    · have hv : ¬ v = x := h
      refine again (k + 1) ⟨hkl, ?_⟩ (by dsimp only; omega) (And.intro rfl (And.intro rfl (And.intro rfl (And.intro (it_eq (by omega)) trivial)))) trivial rfl
      rw [take_snoc hx, List.mem_append, List.mem_singleton, not_or]
      exact ⟨k2, hv⟩
  · (repeat' ((conv=>whnf);first|with_reducible refine gA ?_|(with_reducible first|refine gB ?_|refine gZ (fun x hx hu=>?_)|refine gY (fun x hx=>?_)|refine gE ?_|refine Both.mk ?_ ?_|refine gS (fun h=>?_) (fun h=>?_)|refine Spl.nt ?_|refine Spl.mk (fun h=>?_) (fun h=>?_))))
    refine it_eq ?_
    rw [List.take_of_length_le hkl] at k2
    unfold idxI
    rw [if_neg k2]
theorem contZ_ok (l : List Int) (v : Int) (hl : l.length ≤ 1000) : FnC Tryz.prog 38 [.d (.fs 1 (l.map encZ)), .d (.it .i64 v)] (.d (.bl (decide (v ∈ l)))) := by
  have hi := idxZ_ok l v hl
  refine FnC.intro ti_ok Tryz.func38 rfl Tryz.ntmps38 Tryz.call38 rfl (Nat.le_of_ble_eq_true rfl) rfl ?_
  by_cases hv : v ∈ l
  · rw [show idxI l v = (l.idxOf v : Nat) from if_pos hv] at hi
    rw [decide_eq_true hv]
    (repeat' ((conv=>whnf);first|with_reducible refine gA ?_|((with_reducible refine callE_id ?_); refine CallE.con ⟨_, hi, ?_⟩)|(with_reducible first|refine gB ?_|refine gZ (fun x hx hu=>?_)|refine gY (fun x hx=>?_)|refine gE ?_|refine Both.mk ?_ ?_|refine gS (fun h=>?_) (fun h=>?_)|refine Spl.nt ?_|refine Spl.mk (fun h=>?_) (fun h=>?_))))
    refine bl_eq (decide_eq_true ?_)
    omega
  · rw [show idxI l v = -1 from if_neg hv] at hi
    rw [decide_eq_false hv]
    (repeat' ((conv=>whnf);first|with_reducible refine gA ?_|((with_reducible refine callE_id ?_); refine CallE.con ⟨_, hi, ?_⟩)|(with_reducible first|refine gB ?_|refine gZ (fun x hx hu=>?_)|refine gY (fun x hx=>?_)|refine gE ?_|refine Both.mk ?_ ?_|refine gS (fun h=>?_) (fun h=>?_)|refine Spl.nt ?_|refine Spl.mk (fun h=>?_) (fun h=>?_))))
    rfl
theorem kinds_ok (a b : Vl) (l : List Int) (hl : l.length ≤ 1000) : FnC Tryz.prog 22 [.dg 3 (encVl a), .dg 3 (encVl b), .d (.fs 1 (l.map encZ))] (.d (.bl (decide (a.k = b.k ∧ a.k ∈ l)))) := by
  have hc := contZ_ok l a.k hl
  obtain ⟨ak, an, a3⟩ := a
  obtain ⟨bk, bn, bs⟩ := b
  refine FnC.intro ti_ok Tryz.func22 rfl Tryz.ntmps22 Tryz.call22 rfl (Nat.le_of_ble_eq_true rfl) rfl ?_
  (repeat' ((conv=>whnf);first|with_reducible refine gA ?_|((with_reducible refine callE_id ?_); refine CallE.con ⟨_, hc, ?_⟩)|(with_reducible first|refine gB ?_|refine gZ (fun x hx hu=>?_)|refine gY (fun x hx=>?_)|refine gE ?_|refine Both.mk ?_ ?_|refine gS (fun h=>?_) (fun h=>?_)|refine Spl.nt ?_|refine Spl.mk (fun h=>?_) (fun h=>?_))))
  · have h : ak = bk := h
    subst h
    refine bl_eq ?_
    simp
  · have h : ¬ ak = bk := h
    refine bl_eq ?_
    simp [h]
def sumV (a b : Vl) : Vl × Int := if a.k = 1 then (intV (add64 a.n b.n), 0) else if 128 < a.s.length + b.s.length then (vl0, 14) else (textV (a.s ++ b.s), 0)
theorem sum_ok (a b : Vl) (ha : a.s.length ≤ 1000) (hb : b.s.length ≤ 1000) : FnC Tryz.prog 23 [.dg 3 (encVl a), .dg 3 (encVl b)] (tupV (sumV a b)) := by
  have h1 := numAdd_ok a.n b.n
  have h2 := vInt_ok (add64 a.n b.n)
  have h3 := vText_ok (a.s ++ b.s)
  unfold sumV tupV
  obtain ⟨ak, an, a3⟩ := a
  obtain ⟨bk, bn, bs⟩ := b
  dsimp only at *
  by_cases hk : ak = 1
  · subst hk
    simp only [if_pos]
    refine FnC.intro ti_ok Tryz.func23 rfl Tryz.ntmps23 Tryz.call23 rfl (Nat.le_of_ble_eq_true rfl) rfl ?_
    (repeat' ((conv=>whnf);first|with_reducible refine gA ?_|((with_reducible refine callE_id ?_); first | refine CallE.con ⟨_, h1, ?_⟩ | refine CallE.con ⟨_, h2, ?_⟩ | refine CallE.con ⟨_, h3, ?_⟩)|(with_reducible first|refine gB ?_|refine gZ (fun x hx hu=>?_)|refine gY (fun x hx=>?_)|refine gE ?_|refine Both.mk ?_ ?_|refine gS (fun h=>?_) (fun h=>?_)|refine Spl.nt ?_|refine Spl.mk (fun h=>?_) (fun h=>?_))))
    all_goals first | rfl | (exfalso; omega)
  · simp only [if_neg hk]
    by_cases hs : 128 < a3.length + bs.length
    · simp only [if_pos hs]
      refine FnC.intro ti_ok Tryz.func23 rfl Tryz.ntmps23 Tryz.call23 rfl (Nat.le_of_ble_eq_true rfl) rfl ?_
      (repeat' ((conv=>whnf);first|with_reducible refine gA ?_|((with_reducible refine callE_id ?_); first | refine CallE.con ⟨_, h1, ?_⟩ | refine CallE.con ⟨_, h2, ?_⟩ | refine CallE.con ⟨_, h3, ?_⟩)|(with_reducible first|refine gB ?_|refine gZ (fun x hx hu=>?_)|refine gY (fun x hx=>?_)|refine gE ?_|refine Both.mk ?_ ?_|refine gS (fun h=>?_) (fun h=>?_)|refine Spl.nt ?_|refine Spl.mk (fun h=>?_) (fun h=>?_))))
      all_goals first | rfl | (exfalso; dsimp only at *; omega)
    · simp only [if_neg hs]
      refine FnC.intro ti_ok Tryz.func23 rfl Tryz.ntmps23 Tryz.call23 rfl (Nat.le_of_ble_eq_true rfl) rfl ?_
      (repeat' ((conv=>whnf);first|with_reducible refine gA ?_|((with_reducible refine callE_id ?_); first | refine CallE.con ⟨_, h1, ?_⟩ | refine CallE.con ⟨_, h2, ?_⟩ | refine CallE.con ⟨_, h3, ?_⟩)|(with_reducible first|refine gB ?_|refine gZ (fun x hx hu=>?_)|refine gY (fun x hx=>?_)|refine gE ?_|refine Both.mk ?_ ?_|refine gS (fun h=>?_) (fun h=>?_)|refine Spl.nt ?_|refine Spl.mk (fun h=>?_) (fun h=>?_))))
      all_goals first | rfl | (exfalso; dsimp only at *; omega)
def sameV (a b : Vl) : Bool := if a.k = 2 then decide (a.s = b.s) else decide (a.n = b.n)
def lessV (a b : Vl) : Bool := decide (a.k = 1 ∧ a.n < b.n) || (decide (a.k = 2) && Op.bytesLess a.s b.s)
theorem same_ok (a b : Vl) : FnC Tryz.prog 25 [.dg 3 (encVl a), .dg 3 (encVl b)] (.d (.bl (sameV a b))) := by
  have t1 := vText_ok a.s
  have t2 := vText_ok b.s
  have i1 := vInt_ok a.n
  have i2 := vInt_ok b.n
  obtain ⟨ak, an, a3⟩ := a
  obtain ⟨bk, bn, bs⟩ := b
  refine FnC.intro ti_ok Tryz.func25 rfl Tryz.ntmps25 Tryz.call25 rfl (Nat.le_of_ble_eq_true rfl) rfl ?_
  unfold sameV
  by_cases hk : ak = 2
  · subst hk
    simp only [if_pos]
    (repeat' ((conv=>whnf);first|with_reducible refine gA ?_|((with_reducible refine callE_id ?_); first | refine CallE.con ⟨_, t1, ?_⟩ | refine CallE.con ⟨_, t2, ?_⟩) | refine CallP.mk ⟨_, t1, ?_⟩ | refine CallP.mk ⟨_, t2, ?_⟩|(with_reducible first|refine gB ?_|refine gZ (fun x hx hu=>?_)|refine gY (fun x hx=>?_)|refine gE ?_|refine Both.mk ?_ ?_|refine gS (fun h=>?_) (fun h=>?_)|refine Spl.nt ?_|refine Spl.mk (fun h=>?_) (fun h=>?_))))
    all_goals refine bl_eq ?_
    all_goals (rw [Bool.eq_iff_iff]; simp [encVl, textV, eqDs, eqD])
  · simp only [if_neg hk]
    (repeat' ((conv=>whnf);first|with_reducible refine gA ?_|((with_reducible refine callE_id ?_); first | refine CallE.con ⟨_, i1, ?_⟩ | refine CallE.con ⟨_, i2, ?_⟩) | refine CallP.mk ⟨_, i1, ?_⟩ | refine CallP.mk ⟨_, i2, ?_⟩|(with_reducible first|refine gB ?_|refine gZ (fun x hx hu=>?_)|refine gY (fun x hx=>?_)|refine gE ?_|refine Both.mk ?_ ?_|refine gS (fun h=>?_) (fun h=>?_)|refine Spl.nt ?_|refine Spl.mk (fun h=>?_) (fun h=>?_))))
    all_goals first
      | (refine bl_eq ?_; rw [Bool.eq_iff_iff]; simp [encVl, intV, eqDs, eqD]; done)
      | (exfalso; simp_all; done)
theorem less_ok (a b : Vl) : FnC Tryz.prog 26 [.dg 3 (encVl a), .dg 3 (encVl b)] (.d (.bl (lessV a b))) := by
  obtain ⟨ak, an, a3⟩ := a
  obtain ⟨bk, bn, bs⟩ := b
  refine FnC.intro ti_ok Tryz.func26 rfl Tryz.ntmps26 Tryz.call26 rfl (Nat.le_of_ble_eq_true rfl) rfl ?_
  unfold lessV
  by_cases h1 : ak = 1
  · subst h1
    (repeat' ((conv=>whnf);first|with_reducible refine gA ?_|(with_reducible first|refine gB ?_|refine gZ (fun x hx hu=>?_)|refine gY (fun x hx=>?_)|refine gE ?_|refine Both.mk ?_ ?_|refine gS (fun h=>?_) (fun h=>?_)|refine Spl.nt ?_|refine Spl.mk (fun h=>?_) (fun h=>?_))))
    all_goals (refine bl_eq ?_; rw [Bool.eq_iff_iff]; simp_all)
  · by_cases h2 : ak = 2
    · subst h2
      (repeat' ((conv=>whnf);first|with_reducible refine gA ?_|(with_reducible first|refine gB ?_|refine gZ (fun x hx hu=>?_)|refine gY (fun x hx=>?_)|refine gE ?_|refine Both.mk ?_ ?_|refine gS (fun h=>?_) (fun h=>?_)|refine Spl.nt ?_|refine Spl.mk (fun h=>?_) (fun h=>?_))))
      all_goals (refine bl_eq ?_; simp_all)
    · (repeat' ((conv=>whnf);first|with_reducible refine gA ?_|(with_reducible first|refine gB ?_|refine gZ (fun x hx hu=>?_)|refine gY (fun x hx=>?_)|refine gE ?_|refine Both.mk ?_ ?_|refine gS (fun h=>?_) (fun h=>?_)|refine Spl.nt ?_|refine Spl.mk (fun h=>?_) (fun h=>?_))))
      all_goals (refine bl_eq ?_; simp_all)
end Go.Proofs.YtajeadkdacgldaaGreatDoor

/- Any operation on values. Conditions: none. -/
namespace Go.Proofs.YtajeadkdacgldaaGreatDoor
open Go.Sy
set_option maxRecDepth 100000
set_option linter.all false
section
variable {a b : Vl}
theorem opV_out {op : Int} (h : op < 9 ∨ 12 < op) : opV op a b = (vl0, 1) := by unfold opV; rw [if_pos h]
theorem opV_9 (h1 : a.k = b.k) (h2 : a.k = 1 ∨ a.k = 2) : opV 9 a b = sumV a b := by
  unfold opV sumV
  rw [if_neg (by omega), if_neg (by omega), if_pos rfl]
theorem opV_9n (h : ¬ (a.k = b.k ∧ (a.k = 1 ∨ a.k = 2))) : opV 9 a b = (vl0, 11) := by
  unfold opV
  rw [if_neg (by omega), if_pos (by omega)]
theorem opV_10 (h1 : a.k = b.k) (h2 : a.k = 1) : opV 10 a b = (intV (sub64 a.n b.n), 0) := by
  unfold opV
  rw [if_neg (by omega), if_neg (by omega), if_neg (by omega), if_pos rfl]
theorem opV_10n (h : ¬ (a.k = b.k ∧ a.k = 1)) : opV 10 a b = (vl0, 11) := by
  unfold opV
  rw [if_neg (by omega), if_pos (by omega)]
theorem opV_11 (h1 : a.k = b.k) (h2 : a.k = 1 ∨ a.k = 2 ∨ a.k = 3) : opV 11 a b = (boolV (sameV a b), 0) := by
  unfold opV sameV
  rw [if_neg (by omega), if_neg (by omega), if_neg (by omega), if_neg (by omega), if_pos rfl]
theorem opV_11n (h : ¬ (a.k = b.k ∧ (a.k = 1 ∨ a.k = 2 ∨ a.k = 3))) : opV 11 a b = (vl0, 11) := by
  unfold opV
  rw [if_neg (by omega), if_pos (by omega)]
theorem opV_12 (h1 : a.k = b.k) (h2 : a.k = 1 ∨ a.k = 2) : opV 12 a b = (boolV (lessV a b), 0) := by
  unfold opV lessV
  rw [if_neg (by omega), if_neg (by omega), if_neg (by omega), if_neg (by omega), if_neg (by omega)]
  rcases h2 with h | h
  · simp [h]
  · simp [h]
theorem opV_12n (h : ¬ (a.k = b.k ∧ (a.k = 1 ∨ a.k = 2))) : opV 12 a b = (vl0, 11) := by
  unfold opV
  rw [if_neg (by omega), if_pos (by omega)]
end
theorem op_ok (op : Int) (a b : Vl) (ha : a.s.length ≤ 1000) (hb : b.s.length ≤ 1000) : FnC Tryz.prog 6 [.d (.it .i64 op), .dg 3 (encVl a), .dg 3 (encVl b)] (tupV (opV op a b)) := by
  have k12 := kinds_ok a b [1, 2] (by decide)
  have k1 := kinds_ok a b [1] (by decide)
  have k123 := kinds_ok a b [1, 2, 3] (by decide)
  have hsum := sum_ok a b ha hb
  have hsub := numSub_ok a.n b.n
  have hint := vInt_ok (sub64 a.n b.n)
  have hsame := same_ok a b
  have hless := less_ok a b
  have hb1 := vBool_ok (sameV a b)
  have hb2 := vBool_ok (lessV a b)
  by_cases h9 : op = 9
  · subst h9
    by_cases hc : a.k = b.k ∧ (a.k = 1 ∨ a.k = 2)
    · rw [opV_9 hc.1 hc.2]
      rw [decide_eq_true (by simpa using hc)] at k12
      generalize sumV a b = R at *
      obtain ⟨rv, re⟩ := R
      obtain ⟨rk, rn, rs⟩ := rv
      unfold tupV at hsum ⊢
      obtain ⟨ak, an, a3⟩ := a
      obtain ⟨bk, bn, b3⟩ := b
      refine FnC.intro ti_ok Tryz.func6 rfl Tryz.ntmps6 Tryz.call6 rfl (Nat.le_of_ble_eq_true rfl) rfl ?_
      (repeat' ((conv=>whnf);first|with_reducible refine gA ?_|((with_reducible refine callE_id ?_); first | refine CallE.con ⟨_, k12, ?_⟩ | refine CallE.con ⟨_, hsum, ?_⟩)|(with_reducible first|refine gB ?_|refine gZ (fun x hx hu=>?_)|refine gY (fun x hx=>?_)|refine gE ?_|refine Both.mk ?_ ?_|refine gS (fun h=>?_) (fun h=>?_)|refine Spl.nt ?_|refine Spl.mk (fun h=>?_) (fun h=>?_))))
      rfl
    · rw [opV_9n hc]
      rw [decide_eq_false (by simpa using hc)] at k12
      obtain ⟨ak, an, a3⟩ := a
      obtain ⟨bk, bn, b3⟩ := b
      refine FnC.intro ti_ok Tryz.func6 rfl Tryz.ntmps6 Tryz.call6 rfl (Nat.le_of_ble_eq_true rfl) rfl ?_
      (repeat' ((conv=>whnf);first|with_reducible refine gA ?_|((with_reducible refine callE_id ?_); first | refine CallE.con ⟨_, k12, ?_⟩)|(with_reducible first|refine gB ?_|refine gZ (fun x hx hu=>?_)|refine gY (fun x hx=>?_)|refine gE ?_|refine Both.mk ?_ ?_|refine gS (fun h=>?_) (fun h=>?_)|refine Spl.nt ?_|refine Spl.mk (fun h=>?_) (fun h=>?_))))
      rfl
  by_cases h10 : op = 10
  · subst h10
    by_cases hc : a.k = b.k ∧ a.k = 1
    · rw [opV_10 hc.1 hc.2]
      rw [decide_eq_true (by simpa using hc)] at k1
      obtain ⟨ak, an, a3⟩ := a
      obtain ⟨bk, bn, b3⟩ := b
      dsimp only at *
      refine FnC.intro ti_ok Tryz.func6 rfl Tryz.ntmps6 Tryz.call6 rfl (Nat.le_of_ble_eq_true rfl) rfl ?_
      (repeat' ((conv=>whnf);first|with_reducible refine gA ?_|((with_reducible refine callE_id ?_); first | refine CallE.con ⟨_, k1, ?_⟩ | refine CallE.con ⟨_, hsub, ?_⟩ | refine CallE.con ⟨_, hint, ?_⟩)|(with_reducible first|refine gB ?_|refine gZ (fun x hx hu=>?_)|refine gY (fun x hx=>?_)|refine gE ?_|refine Both.mk ?_ ?_|refine gS (fun h=>?_) (fun h=>?_)|refine Spl.nt ?_|refine Spl.mk (fun h=>?_) (fun h=>?_))))
      rfl
    · rw [opV_10n hc]
      rw [decide_eq_false (by simpa using hc)] at k1
      obtain ⟨ak, an, a3⟩ := a
      obtain ⟨bk, bn, b3⟩ := b
      refine FnC.intro ti_ok Tryz.func6 rfl Tryz.ntmps6 Tryz.call6 rfl (Nat.le_of_ble_eq_true rfl) rfl ?_
      (repeat' ((conv=>whnf);first|with_reducible refine gA ?_|((with_reducible refine callE_id ?_); first | refine CallE.con ⟨_, k1, ?_⟩)|(with_reducible first|refine gB ?_|refine gZ (fun x hx hu=>?_)|refine gY (fun x hx=>?_)|refine gE ?_|refine Both.mk ?_ ?_|refine gS (fun h=>?_) (fun h=>?_)|refine Spl.nt ?_|refine Spl.mk (fun h=>?_) (fun h=>?_))))
      rfl
  by_cases h11 : op = 11
  · subst h11
    by_cases hc : a.k = b.k ∧ (a.k = 1 ∨ a.k = 2 ∨ a.k = 3)
    · rw [opV_11 hc.1 hc.2]
      rw [decide_eq_true (by simpa using hc)] at k123
      generalize sameV a b = R at *
      obtain ⟨ak, an, a3⟩ := a
      obtain ⟨bk, bn, b3⟩ := b
      cases R
      all_goals refine FnC.intro ti_ok Tryz.func6 rfl Tryz.ntmps6 Tryz.call6 rfl (Nat.le_of_ble_eq_true rfl) rfl ?_
      all_goals (repeat' ((conv=>whnf);first|with_reducible refine gA ?_|((with_reducible refine callE_id ?_); first | refine CallE.con ⟨_, k123, ?_⟩ | refine CallE.con ⟨_, hsame, ?_⟩ | refine CallE.con ⟨_, hb1, ?_⟩)|(with_reducible first|refine gB ?_|refine gZ (fun x hx hu=>?_)|refine gY (fun x hx=>?_)|refine gE ?_|refine Both.mk ?_ ?_|refine gS (fun h=>?_) (fun h=>?_)|refine Spl.nt ?_|refine Spl.mk (fun h=>?_) (fun h=>?_))))
      all_goals rfl
    · rw [opV_11n hc]
      rw [decide_eq_false (by simpa using hc)] at k123
      obtain ⟨ak, an, a3⟩ := a
      obtain ⟨bk, bn, b3⟩ := b
      refine FnC.intro ti_ok Tryz.func6 rfl Tryz.ntmps6 Tryz.call6 rfl (Nat.le_of_ble_eq_true rfl) rfl ?_
      (repeat' ((conv=>whnf);first|with_reducible refine gA ?_|((with_reducible refine callE_id ?_); first | refine CallE.con ⟨_, k123, ?_⟩)|(with_reducible first|refine gB ?_|refine gZ (fun x hx hu=>?_)|refine gY (fun x hx=>?_)|refine gE ?_|refine Both.mk ?_ ?_|refine gS (fun h=>?_) (fun h=>?_)|refine Spl.nt ?_|refine Spl.mk (fun h=>?_) (fun h=>?_))))
      rfl
  by_cases h12 : op = 12
  · subst h12
    by_cases hc : a.k = b.k ∧ (a.k = 1 ∨ a.k = 2)
    · rw [opV_12 hc.1 hc.2]
      rw [decide_eq_true (by simpa using hc)] at k12
      generalize lessV a b = R at *
      obtain ⟨ak, an, a3⟩ := a
      obtain ⟨bk, bn, b3⟩ := b
      cases R
      all_goals refine FnC.intro ti_ok Tryz.func6 rfl Tryz.ntmps6 Tryz.call6 rfl (Nat.le_of_ble_eq_true rfl) rfl ?_
      all_goals (repeat' ((conv=>whnf);first|with_reducible refine gA ?_|((with_reducible refine callE_id ?_); first | refine CallE.con ⟨_, k12, ?_⟩ | refine CallE.con ⟨_, hless, ?_⟩ | refine CallE.con ⟨_, hb2, ?_⟩)|(with_reducible first|refine gB ?_|refine gZ (fun x hx hu=>?_)|refine gY (fun x hx=>?_)|refine gE ?_|refine Both.mk ?_ ?_|refine gS (fun h=>?_) (fun h=>?_)|refine Spl.nt ?_|refine Spl.mk (fun h=>?_) (fun h=>?_))))
      all_goals rfl
    · rw [opV_12n hc]
      rw [decide_eq_false (by simpa using hc)] at k12
      obtain ⟨ak, an, a3⟩ := a
      obtain ⟨bk, bn, b3⟩ := b
      refine FnC.intro ti_ok Tryz.func6 rfl Tryz.ntmps6 Tryz.call6 rfl (Nat.le_of_ble_eq_true rfl) rfl ?_
      (repeat' ((conv=>whnf);first|with_reducible refine gA ?_|((with_reducible refine callE_id ?_); first | refine CallE.con ⟨_, k12, ?_⟩)|(with_reducible first|refine gB ?_|refine gZ (fun x hx hu=>?_)|refine gY (fun x hx=>?_)|refine gE ?_|refine Both.mk ?_ ?_|refine gS (fun h=>?_) (fun h=>?_)|refine Spl.nt ?_|refine Spl.mk (fun h=>?_) (fun h=>?_))))
      rfl
  · rw [opV_out (by omega)]
    obtain ⟨ak, an, a3⟩ := a
    obtain ⟨bk, bn, b3⟩ := b
    refine FnC.intro ti_ok Tryz.func6 rfl Tryz.ntmps6 Tryz.call6 rfl (Nat.le_of_ble_eq_true rfl) rfl ?_
    (repeat' ((conv=>whnf);first|with_reducible refine gA ?_|(with_reducible first|refine gB ?_|refine gZ (fun x hx hu=>?_)|refine gY (fun x hx=>?_)|refine gE ?_|refine Both.mk ?_ ?_|refine gS (fun h=>?_) (fun h=>?_)|refine Spl.nt ?_|refine Spl.mk (fun h=>?_) (fun h=>?_))))
    all_goals first | rfl | (exfalso; dsimp only at *; omega) | (exfalso; simp_all; done)
end Go.Proofs.YtajeadkdacgldaaGreatDoor

/- The document's operation on values. Conditions: none. -/
namespace Go.Proofs.YtajeadkdacgldaaGreatDoor
open Go.Sy
set_option maxRecDepth 100000
set_option linter.all false
theorem tb {e e' : Bool} (h : e = e') : AV.tup [.dg 3 (encVl (boolV e)), .d (.it .i64 0)] = tupV (boolV e', 0) := by rw [h]; rfl
set_option maxHeartbeats 8000000 in
theorem refOp_ok (op : Int) (a b : Vl) (ha : a.s.length ≤ 1000) (hb : b.s.length ≤ 1000) : FnC Tryz.prog 7 [.d (.it .i64 op), .dg 3 (encVl a), .dg 3 (encVl b)] (tupV (opV op a b)) := by
  have hadd := refAdd_ok a.n b.n
  have hsub := refSub_ok a.n b.n
  have hi1 := rInt_ok (add64 a.n b.n)
  have hi2 := rInt_ok (sub64 a.n b.n)
  have ht := rText_ok (a.s ++ b.s)
  by_cases h0 : op < 9 ∨ 12 < op
  · rw [opV_out h0]
    obtain ⟨ak, an, a3⟩ := a
    obtain ⟨bk, bn, b3⟩ := b
    refine FnC.intro ti_ok Tryz.func7 rfl Tryz.ntmps7 Tryz.call7 rfl (Nat.le_of_ble_eq_true rfl) rfl ?_
    rcases h0 with h0 | h0
    all_goals (repeat' ((conv=>whnf);first|with_reducible refine gA ?_|(with_reducible first|refine gB ?_|refine gZ (fun x hx hu=>?_)|refine gY (fun x hx=>?_)|refine gE ?_|refine Both.mk ?_ ?_|refine gS (fun h=>?_) (fun h=>?_)|refine Spl.nt ?_|refine Spl.mk (fun h=>?_) (fun h=>?_))))
    all_goals first | rfl | (exfalso; dsimp only at *; omega)
  by_cases hC : a.k ≠ b.k ∨ a.k < 1 ∨ 3 < a.k ∨ (op ≠ 11 ∧ a.k = 3) ∨ (op = 10 ∧ a.k = 2)
  · rw [show opV op a b = (vl0, 11) by unfold opV; rw [if_neg h0, if_pos hC]]
    obtain ⟨ak, an, a3⟩ := a
    obtain ⟨bk, bn, b3⟩ := b
    refine FnC.intro ti_ok Tryz.func7 rfl Tryz.ntmps7 Tryz.call7 rfl (Nat.le_of_ble_eq_true rfl) rfl ?_
    dsimp only at hC
    rcases hC with h | h | h | ⟨h1, rfl⟩ | ⟨rfl, rfl⟩
    all_goals (repeat' ((conv=>whnf);first|with_reducible refine gA ?_|(with_reducible first|refine gB ?_|refine gZ (fun x hx hu=>?_)|refine gY (fun x hx=>?_)|refine gE ?_|refine Both.mk ?_ ?_|refine gS (fun h=>?_) (fun h=>?_)|refine Spl.nt ?_|refine Spl.mk (fun h=>?_) (fun h=>?_))))
    all_goals first | rfl | (exfalso; dsimp only at *; omega)
  have hkk : a.k = b.k := by omega
  by_cases h9 : op = 9
  · subst h9
    rw [opV_9 hkk (by omega)]
    unfold sumV
    by_cases hk : a.k = 1
    · rw [if_pos hk]
      obtain ⟨ak, an, a3⟩ := a
      obtain ⟨bk, bn, b3⟩ := b
      dsimp only at *
      subst hk hkk
      refine FnC.intro ti_ok Tryz.func7 rfl Tryz.ntmps7 Tryz.call7 rfl (Nat.le_of_ble_eq_true rfl) rfl ?_
      (repeat' ((conv=>whnf);first|with_reducible refine gA ?_|((with_reducible refine callE_id ?_); first | refine CallE.con ⟨_, hadd, ?_⟩ | refine CallE.con ⟨_, hi1, ?_⟩)|(with_reducible first|refine gB ?_|refine gZ (fun x hx hu=>?_)|refine gY (fun x hx=>?_)|refine gE ?_|refine Both.mk ?_ ?_|refine gS (fun h=>?_) (fun h=>?_)|refine Spl.nt ?_|refine Spl.mk (fun h=>?_) (fun h=>?_))))
      all_goals first | rfl | (exfalso; dsimp only at *; omega)
    · rw [if_neg hk]
      have hk2 : a.k = 2 := by omega
      by_cases hs : 128 < a.s.length + b.s.length
      · rw [if_pos hs]
        obtain ⟨ak, an, a3⟩ := a
        obtain ⟨bk, bn, b3⟩ := b
        dsimp only at *
        subst hk2 hkk
        refine FnC.intro ti_ok Tryz.func7 rfl Tryz.ntmps7 Tryz.call7 rfl (Nat.le_of_ble_eq_true rfl) rfl ?_
        (repeat' ((conv=>whnf);first|with_reducible refine gA ?_|((with_reducible refine callE_id ?_); first | refine CallE.con ⟨_, ht, ?_⟩)|(with_reducible first|refine gB ?_|refine gZ (fun x hx hu=>?_)|refine gY (fun x hx=>?_)|refine gE ?_|refine Both.mk ?_ ?_|refine gS (fun h=>?_) (fun h=>?_)|refine Spl.nt ?_|refine Spl.mk (fun h=>?_) (fun h=>?_))))
        all_goals first | rfl | (exfalso; dsimp only at *; omega)
      · rw [if_neg hs]
        obtain ⟨ak, an, a3⟩ := a
        obtain ⟨bk, bn, b3⟩ := b
        dsimp only at *
        subst hk2 hkk
        refine FnC.intro ti_ok Tryz.func7 rfl Tryz.ntmps7 Tryz.call7 rfl (Nat.le_of_ble_eq_true rfl) rfl ?_
        (repeat' ((conv=>whnf);first|with_reducible refine gA ?_|((with_reducible refine callE_id ?_); first | refine CallE.con ⟨_, ht, ?_⟩)|(with_reducible first|refine gB ?_|refine gZ (fun x hx hu=>?_)|refine gY (fun x hx=>?_)|refine gE ?_|refine Both.mk ?_ ?_|refine gS (fun h=>?_) (fun h=>?_)|refine Spl.nt ?_|refine Spl.mk (fun h=>?_) (fun h=>?_))))
        all_goals first | rfl | (exfalso; dsimp only at *; omega)
  by_cases h10 : op = 10
  · subst h10
    have hk : a.k = 1 := by omega
    rw [opV_10 hkk hk]
    obtain ⟨ak, an, a3⟩ := a
    obtain ⟨bk, bn, b3⟩ := b
    dsimp only at *
    subst hk hkk
    refine FnC.intro ti_ok Tryz.func7 rfl Tryz.ntmps7 Tryz.call7 rfl (Nat.le_of_ble_eq_true rfl) rfl ?_
    (repeat' ((conv=>whnf);first|with_reducible refine gA ?_|((with_reducible refine callE_id ?_); first | refine CallE.con ⟨_, hsub, ?_⟩ | refine CallE.con ⟨_, hi2, ?_⟩)|(with_reducible first|refine gB ?_|refine gZ (fun x hx hu=>?_)|refine gY (fun x hx=>?_)|refine gE ?_|refine Both.mk ?_ ?_|refine gS (fun h=>?_) (fun h=>?_)|refine Spl.nt ?_|refine Spl.mk (fun h=>?_) (fun h=>?_))))
    all_goals first | rfl | (exfalso; dsimp only at *; omega)
  by_cases h11 : op = 11
  · subst h11
    rw [opV_11 hkk (by omega)]
    unfold sameV
    have hk3 : a.k = 1 ∨ a.k = 2 ∨ a.k = 3 := by omega
    obtain ⟨ak, an, a3⟩ := a
    obtain ⟨bk, bn, b3⟩ := b
    dsimp only at *
    subst hkk
    rcases hk3 with rfl | rfl | rfl
    all_goals refine FnC.intro ti_ok Tryz.func7 rfl Tryz.ntmps7 Tryz.call7 rfl (Nat.le_of_ble_eq_true rfl) rfl ?_
    all_goals (repeat' ((conv=>whnf);first|with_reducible refine gA ?_|((with_reducible refine callE_id ?_); first | refine CallE.con ⟨_, rBool_ok _, ?_⟩)|(with_reducible first|refine gB ?_|refine gZ (fun x hx hu=>?_)|refine gY (fun x hx=>?_)|refine gE ?_|refine Both.mk ?_ ?_|refine gS (fun h=>?_) (fun h=>?_)|refine Spl.nt ?_|refine Spl.mk (fun h=>?_) (fun h=>?_))))
    all_goals first
      | (refine tb ?_; simp_all; done)
      | (refine tb ?_; rw [Bool.eq_iff_iff]; simp_all; done)
      | (exfalso; dsimp only at *; omega)
  · have h12 : op = 12 := by omega
    subst h12
    rw [opV_12 hkk (by omega)]
    unfold lessV
    have hk3 : a.k = 1 ∨ a.k = 2 := by omega
    obtain ⟨ak, an, a3⟩ := a
    obtain ⟨bk, bn, b3⟩ := b
    dsimp only at *
    subst hkk
    rcases hk3 with rfl | rfl
    all_goals refine FnC.intro ti_ok Tryz.func7 rfl Tryz.ntmps7 Tryz.call7 rfl (Nat.le_of_ble_eq_true rfl) rfl ?_
    all_goals (repeat' ((conv=>whnf);first|with_reducible refine gA ?_|((with_reducible refine callE_id ?_); first | refine CallE.con ⟨_, rBool_ok _, ?_⟩)|(with_reducible first|refine gB ?_|refine gZ (fun x hx hu=>?_)|refine gY (fun x hx=>?_)|refine gE ?_|refine Both.mk ?_ ?_|refine gS (fun h=>?_) (fun h=>?_)|refine Spl.nt ?_|refine Spl.mk (fun h=>?_) (fun h=>?_))))
    all_goals first
      | (refine tb ?_; simp_all; done)
      | (refine tb ?_; rw [Bool.eq_iff_iff]; simp_all; done)
      | (exfalso; dsimp only at *; omega)
end Go.Proofs.YtajeadkdacgldaaGreatDoor
