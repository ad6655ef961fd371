/- Contracts of the functions that the law reaches, and the law. Conditions: none. -/
import Derived.Test.YtmfokpfddponjaaGreatDoorKE
import Derived.Test.YtmfokpfddponjaaGreatDoorKF
import Derived.Test.YtmfokpfddponjaaGreatDoorSD
import Derived.Test.YtmfokpfddponjaaGreatDoorKG
import Derived.Test.YtmfokpfddponjaaGreatDoorSC
import Derived.Test.YtmfokpfddponjaaGreatDoorCards
import Derived.Test.YtmfokpfddponjaaGreatDoorTie
set_option maxRecDepth 100000
set_option linter.all false
namespace Go.Proofs.YtmfokpfddponjaaGreatDoor
open Go.Sy
theorem xI_at (f : Int → List UInt8) {n : Int} (h0 : 0 ≤ n) (h1 : n < 16) : (xI f 16).getD n.toNat ino0 = inoAt f n := by
 have hl : n.toNat < (xI f 16).length := by rw [xI_len]; omega
 rw [List.getD_eq_getElem?_getD, List.getElem?_eq_getElem hl, Option.getD_some, xI_get, if_pos (by omega), show ((n.toNat : Nat) : Int) = n by omega]
theorem head_min {q : Nat} {g : Nat → Bool} {j : Nat} {t : List Nat} (h : (List.range q).filter g = j :: t) : ∀ i, i < j → g i = false := by
 intro i hi
 cases hg : g i with
 | false => rfl
 | true =>
  exfalso
  have hj : j ∈ (List.range q).filter g := by rw [h]; exact List.mem_cons_self
  have hjq := List.mem_range.1 (List.mem_filter.1 hj).1
  have hm : i ∈ (List.range q).filter g := List.mem_filter.2 ⟨List.mem_range.2 (by omega), hg⟩
  have hp : ((List.range q).filter g).Pairwise (· < ·) := List.Pairwise.filter _ List.pairwise_lt_range
  rw [h] at hm hp
  rcases List.mem_cons.1 hm with e | ht
  ·omega
  ·have := List.rel_of_pairwise_cons hp ht; omega
theorem first_prob {od : Nat → Bool} {I : List Ino} {E : List Ent} {own : Nat → Nat} {p : Int × Int} {t : List (Int × Int)} (h : probs od I E own = p :: t) :
  (∃ kind k : Nat, 1 ≤ kind ∧ kind ≤ 5 ∧ k < 24 ∧ p = (((kind : Nat) : Int), ((k : Nat) : Int)) ∧ prbP od I E (reachR (kdI I) E) kind k = true ∧ ∀ kd q, 1 ≤ kd → kd < kind → q < 24 → prbP od I E (reachR (kdI I) E) kd q = false) ∨
  ∃ b : Nat, 1 ≤ b ∧ b ≤ 24 ∧ p = ((6 : Int), ((b : Nat) : Int)) ∧ 1 < own b := by
 unfold probs prbK prbB at h
 cases hf : (List.range 120).filter fun j => prbP od I E (reachR (kdI I) E) (j / 24 + 1) (j % 24) with
 | nil =>
  right
  rw [hf, List.map_nil, List.nil_append] at h
  have hm : p ∈ ((List.range 24).filter fun j => decide (1 < own (j + 1))).map fun j => ((6 : Int), ((j + 1 : Nat) : Int)) := by rw [h]; exact List.mem_cons_self
  obtain ⟨j, hj, rfl⟩ := List.mem_map.1 hm
  obtain ⟨h1, h2⟩ := List.mem_filter.1 hj
  have h1 := List.mem_range.1 h1
  exact ⟨j + 1, by omega, by omega, rfl, of_decide_eq_true h2⟩
 | cons j t' =>
  left
  rw [hf, List.map_cons, List.cons_append] at h
  have hj : j ∈ (List.range 120).filter fun j => prbP od I E (reachR (kdI I) E) (j / 24 + 1) (j % 24) := by rw [hf]; exact List.mem_cons_self
  obtain ⟨h1, h2⟩ := List.mem_filter.1 hj
  have h1 := List.mem_range.1 h1
  refine ⟨j / 24 + 1, j % 24, by omega, by omega, by omega, (List.cons.inj h).1.symm, h2, fun kd q k1 k2 k3 => ?_⟩
  have := head_min hf (24 * (kd - 1) + q) (by omega)
  rw [show (24 * (kd - 1) + q) / 24 + 1 = kd by omega, show (24 * (kd - 1) + q) % 24 = q by omega] at this
  exact this
theorem not_turns {kd : Int → Int} : ∀ {E : List Ent} {R : List Bool}, passR kd E R = R → ∀ x ∈ E, ¬ turnsR kd R x
 | [], _, _, x, hx => by cases hx
 | y :: E, R, h, x, hx => by
  have h' : passR kd E (stepR kd R y) = R := h
  by_cases hy : turnsR kd R y
  ·exfalso
   have h1 := (stepR_yes hy).2
   have h2 := passR_cnt kd E (stepR kd R y)
   rw [h'] at h2
   omega
  ·rw [stepR_no hy] at h'
   rcases List.mem_cons.1 hx with rfl | hx
   ·exact hy
   ·exact not_turns h' x hx
theorem reach_fixed (kd : Int → Int) (E : List Ent) : passR kd E (reachR kd E) = reachR kd E := by
 have key : ∀ j, (∃ i, i ≤ j ∧ passR kd E (iterR kd E i R0) = iterR kd E i R0) ∨ j + 1 ≤ cntR (iterR kd E j R0) := by
  intro j
  induction j with
  | zero => right; show 1 ≤ cntR R0; decide
  | succ j ih =>
   rcases ih with ⟨i, hi, h⟩ | h
   ·exact .inl ⟨i, by omega, h⟩
   ·have e : iterR kd E (j + 1) R0 = passR kd E (iterR kd E j R0) := iterR_add kd E j 1 R0
    by_cases hc : cntR (iterR kd E j R0) < cntR (passR kd E (iterR kd E j R0))
    ·right; rw [e]; omega
    ·exact .inl ⟨j, by omega, passR_fix kd E _ hc⟩
 rcases key 16 with ⟨i, hi, h⟩ | h
 ·have := reach_at kd E hi h
  rw [← this]; exact h
 ·have h1 := cntR_le (iterR kd E 16 R0)
  rw [iterR_len] at h1
  have h2 : R0.length = 16 := rfl
  omega
theorem reach_closed {kd : Int → Int} {E : List Ent} {x : Ent} (hx : x ∈ E) (hu : x.u = true) (hp : (reachR kd E).getD x.p.toNat false = true) (h2 : kd x.p = 2) (h0 : kd x.t ≠ 0) (ht : x.t.toNat < 16) : (reachR kd E).getD x.t.toNat false = true := by
 have h := not_turns (reach_fixed kd E) x hx
 cases hb : (reachR kd E).getD x.t.toNat false with
 | true => rfl
 | false =>
  have hl : (reachR kd E).length = 16 := iterR_len kd E 16 R0
  exact absurd ⟨hu, hp, h2, h0, hb, by omega⟩ h
theorem reach_root (kd : Int → Int) (E : List Ent) : (reachR kd E).getD 0 false = true := by
 have h : ∀ (n : Nat) (R : List Bool), R.getD 0 false = true → (iterR kd E n R).getD 0 false = true := by
  have hp : ∀ (L : List Ent) (R : List Bool), R.getD 0 false = true → (passR kd L R).getD 0 false = true := by
   intro L
   induction L with
   | nil => exact fun _ h => h
   | cons x L ih =>
    intro R hR
    show (passR kd L (stepR kd R x)).getD 0 false = true
    refine ih _ ?_
    by_cases hx : turnsR kd R x
    ·rw [(stepR_yes hx).1, List.getD_eq_getElem?_getD]
     by_cases h0 : x.t.toNat = 0
     ·rw [h0, List.getElem?_set_self (by have := hx.2.2.2.2.2; omega)]; rfl
     ·rw [List.getElem?_set_ne h0, ← List.getD_eq_getElem?_getD]; exact hR
    ·rw [stepR_no hx]; exact hR
  intro n
  induction n with
  | zero => exact fun R h => h
  | succ n ih =>
   intro R hR
   rw [iterR_add kd E n 1 R]
   exact hp E _ (ih R hR)
 exact h 16 R0 rfl
section
variable {f : Int → List UInt8}
theorem ent_mem {k : Nat} (hk : k < 24) : entAt f (k : Nat) ∈ xE f 24 := by
 unfold xE
 exact List.mem_map.2 ⟨k, List.mem_range.2 hk, if_pos hk⟩
theorem ent_RE {k : Nat} (h : (entAt f (k : Nat)).u = true) : 0 ≤ (entAt f (k : Nat)).p ∧ (entAt f (k : Nat)).p < 16 ∧ 1 ≤ (entAt f (k : Nat)).t ∧ (entAt f (k : Nat)).t < 16 := by
 rcases entAt_RE f (k : Nat) with ⟨a, _⟩ | ⟨_, a, b, c, d, _⟩
 ·rw [h] at a; cases a
 ·exact ⟨a, b, c, d⟩
theorem kd_at {n : Int} (h0 : 0 ≤ n) (h1 : n < 16) : kdI (xI f 16) n = (inoAt f n).k := by unfold kdI; rw [xI_at f h0 h1]
theorem lkp_reach : ∀ (way : List (List UInt8)) (a n : Int), 0 ≤ a → a < 16 → (reachR (kdI (xI f 16)) (xE f 24)).getD a.toNat false = true → lkp f way a = (n, 0) → 0 ≤ n ∧ n < 16 ∧ (reachR (kdI (xI f 16)) (xE f 24)).getD n.toNat false = true
 | [], a, n, h0, h1, hr, h => by
  obtain rfl : a = n := (Prod.ext_iff.1 h).1
  exact ⟨h0, h1, hr⟩
 | s :: t, a, n, h0, h1, hr, h => by
  rw [lkp] at h
  by_cases hs : (stepV f a s).2 = 0
  ·rw [if_pos hs] at h
   obtain ⟨k2, j, hj, e⟩ := step_is (m := (stepV f a s).1) (Prod.ext rfl hs)
   obtain ⟨j1, ⟨⟨j2, j3, j4⟩, j5⟩, _⟩ := fndK_is hj
   obtain ⟨r1, r2, r3, r4⟩ := ent_RE j2
   rw [e] at h
   refine lkp_reach t _ n (by omega) (by omega) ?_ h
   refine reach_closed (ent_mem j1) j2 (by rw [j3]; exact hr) ?_ ?_ (by omega)
   ·rw [j3, kd_at h0 h1]; exact k2
   ·rw [kd_at (by omega) (by omega)]; exact j4
  ·rw [if_neg hs] at h; exact absurd (Prod.ext_iff.1 h).2 hs
end
section
variable (od : Nat → Bool) (I : List Ino) (E : List Ent) (R : List Bool) (k : Nat)
theorem prb2 : prbP od I E R 2 k = ((E.getD k ent0).u && decide ((I.getD (E.getD k ent0).t.toNat ino0).k = 0)) := rfl
theorem prb3 : prbP od I E R 3 k = ((E.getD k ent0).u && !decide (sndP I R (E.getD k ent0))) := rfl
theorem prb4 : prbP od I E R 4 k = ((E.getD k ent0).u && (E.take k).any fun o => o.u && (decide (o.p = (E.getD k ent0).p) && decide (o.n = (E.getD k ent0).n))) := rfl
theorem prb5 : prbP od I E R 5 k = ((E.getD k ent0).u && (E.take k).any fun o => o.u && decide (o.t = (E.getD k ent0).t)) := rfl
end
theorem no_hide {d : Dk} {kind k : Nat} (h1 : 1 ≤ kind) (h5 : kind ≤ 5) (hk : k < 24) (hP : prbP (dod (some d)) (xI (rdS (some d)) 16) (xE (rdS (some d)) 24) (reachR (kdI (xI (rdS (some d)) 16)) (xE (rdS (some d)) 24)) kind k = true)
  (hmin : ∀ kd q, 1 ≤ kd → kd < kind → q < 24 → prbP (dod (some d)) (xI (rdS (some d)) 16) (xE (rdS (some d)) 24) (reachR (kdI (xI (rdS (some d)) 16)) (xE (rdS (some d)) 24)) kd q = false) : NoHide (rdS (some d)) k := by
 intro n s j hr hf hj hkj hpk hpj
 obtain ⟨⟨u1, u2, u3⟩, u4⟩ := hpk
 obtain ⟨r1, r2, r3, r4⟩ := ent_RE u1
 have hk5 : kind = 1 ∨ kind = 2 ∨ kind = 3 ∨ kind = 4 ∨ kind = 5 := by omega
 rcases hk5 with rfl | rfl | rfl | rfl | rfl
 ·exfalso
  have h : dod (some d) k = true := hP
  have h := (of_decide_eq_true h).2
  unfold entAt at u1
  rw [if_pos (by omega)] at u1
  unfold entOk at h
  have h := of_decide_eq_false h
  unfold entOf at u1
  rw [if_neg (fun q => h (.inr q))] at u1
  cases u1
 ·exfalso
  rw [prb2, xE_getD _ hk, Bool.and_eq_true, xI_at _ (by omega) r4] at hP
  exact u3 (of_decide_eq_true hP.2)
 ·exfalso
  rw [prb3, xE_getD _ hk, Bool.and_eq_true, Bool.not_eq_true'] at hP
  have hs := of_decide_eq_false hP.2
  obtain ⟨w, hw⟩ := hr
  obtain ⟨q1, q2, q3⟩ := lkp_reach w 0 n (by omega) (by omega) (reach_root _ _) hw
  refine hs ⟨u1, by rw [u2]; exact q3, ?_⟩
  rw [u2, xI_at _ q1 q2]; exact hf
 ·rw [prb4, xE_getD _ hk, Bool.and_eq_true, List.any_eq_true] at hP
  obtain ⟨o, ho, hq⟩ := hP.2
  obtain ⟨i, hi, e⟩ := List.mem_take_iff_getElem.1 ho
  have hik : i < k := by omega
  rw [xE_get, if_pos (by omega)] at e
  subst e
  rw [Bool.and_eq_true, Bool.and_eq_true] at hq
  obtain ⟨q1, q2, q3⟩ := hq
  refine ⟨i, hik, ⟨q1, (of_decide_eq_true q2).trans u2, ?_⟩, (of_decide_eq_true q3).trans u4⟩
  have h2 := hmin 2 i (by omega) (by omega) (by omega)
  rw [prb2] at h2
  obtain ⟨_, _, t1, t2⟩ := ent_RE q1
  rw [xE_getD _ (by omega), xI_at _ (by omega) t2, q1, Bool.true_and] at h2
  exact of_decide_eq_false h2
 ·exfalso
  have h4 := hmin 4 j (by omega) (by omega) hj
  obtain ⟨⟨v1, v2, v3⟩, v4⟩ := hpj
  rw [prb4, xE_getD _ hj, v1, Bool.true_and, List.any_eq_false] at h4
  refine h4 (entAt (rdS (some d)) (k : Nat)) ?_ ?_
  ·refine List.mem_take_iff_getElem.2 ⟨k, by rw [xE_len]; omega, ?_⟩
   rw [xE_get, if_pos hk]
  ·rw [u1, u2, v2, u4, v4]; simp
theorem cut_data (f : Int → List UInt8) (hl : ∀ n, (f n).length = 32) {x : Ino} (hx : RI x) {i : Nat} {b : Int} (hb : 1 ≤ b) (hp : posB x b = some i) : ∃ r, dataV f x = dataV f (cutI x i) ++ r := by
 have hi : i < 4 ∧ (32 * (i : Int) < x.z) := by
  obtain ⟨_, _, hk, hi4⟩ := cutI_RI hx hb hp
  refine ⟨hi4, ?_⟩
  rcases hx with ⟨h, _⟩ | ⟨_, _, _, a1, a1', a2, a2', a3, a3', a4, a4'⟩
  ·omega
  ·unfold posB at hp
   split at hp
   ·obtain rfl := Option.some.inj hp; omega
   ·split at hp
    ·obtain rfl := Option.some.inj hp; omega
    ·split at hp
     ·obtain rfl := Option.some.inj hp; omega
     ·split at hp
      ·obtain rfl := Option.some.inj hp; omega
      ·cases hp
 obtain ⟨hi4, hz⟩ := hi
 have key : dataV f (cutI x i) = (f (40 + x.b0) ++ f (40 + x.b1) ++ f (40 + x.b2) ++ f (40 + x.b3)).take (32 * i) := by
  unfold dataV cutI
  rw [show ((i : Int) * 32).toNat = 32 * i by omega, take_4 (hl _) (hl _) (hl _), take_4 (hl _) (hl _) (hl _)]
  have hi' : i = 0 ∨ i = 1 ∨ i = 2 ∨ i = 3 := by omega
  rcases hi' with rfl | rfl | rfl | rfl
  ·simp
  ·simp
   rw [List.take_append_of_le_length (by rw [hl]; omega)]
  ·simp
   rw [← List.append_assoc (f (40 + x.b0)) (f (40 + x.b1)) (f (40 + x.b2) ++ f (40 + x.b3))]
   exact (List.take_append_of_le_length (by rw [List.length_append, hl, hl]; omega)).symm
  ·simp
   rw [show f (40 + x.b0) ++ (f (40 + x.b1) ++ (f (40 + x.b2) ++ f (40 + x.b3))) = (f (40 + x.b0) ++ (f (40 + x.b1) ++ f (40 + x.b2))) ++ f (40 + x.b3) by simp]
   exact (List.take_append_of_le_length (by rw [List.length_append, List.length_append, hl, hl, hl]; omega)).symm
 refine ⟨(dataV f x).drop (32 * i), ?_⟩
 rw [key]
 unfold dataV
 have e := List.take_append_drop (32 * i) ((f (40 + x.b0) ++ f (40 + x.b1) ++ f (40 + x.b2) ++ f (40 + x.b3)).take x.z.toNat)
 rw [List.take_take, Nat.min_eq_left (by omega)] at e
 exact e.symm
theorem rdS_len32 {d : Dk} (h1 : ∀ s ∈ d.safe, s.length = 32) (h2 : ∀ w ∈ d.wait, w.s.length = 32) (n : Int) : (rdS (some d) n).length = 32 := by
 simp only [rdS]
 split
 ·split
  ·rename_i s hs
   simp only [lastAt, Option.map_eq_some_iff] at hs
   obtain ⟨w, hw, rfl⟩ := hs
   exact h2 w (by simpa using List.mem_of_find?_eq_some hw)
  ·rw [List.getD_eq_getElem?_getD]
   cases hq : d.safe[n.toNat]? with
   | none => rfl
   | some s => exact h1 s (List.mem_of_getElem? hq)
 ·rfl
theorem mnt_len {d : Dk} (h : Mnt d) (n : Int) : (rdS (some d) n).length = 32 := rdS_len32 h.s h.w n
theorem zero_u : (entOf zeroS).u = false := by unfold entOf; rw [if_neg zero_not]; rfl
theorem step_kept {d : Dk} (h : Mnt d) : Kept (rdS (some d)) (rdS (some (stepD d))) := by
 unfold stepD
 cases hw : nextW (some d) with
 | none => exact Kept.refl _
 | some w =>
  obtain ⟨hM, _, w1, w2, _⟩ := step_mnt h hw
  dsimp only
  have hr := fun n => rdS_wr d w n ⟨by omega, by have := h.n; omega⟩
  have hR := fun n => inoAt_RI (rdS (some d)) n
  have hl := mnt_len h
  have hl' := mnt_len hM
  unfold nextW at hw
  cases hp : probsD (some d) with
  | nil => rw [hp] at hw; cases hw
  | cons p t =>
   rw [hp] at hw
   have hw := Option.some.inj hw
   rcases first_prob hp with ⟨kind, k, k1, k2, k3, rfl, hP, hmin⟩ | ⟨b, b1, b2, rfl, hb⟩
   ·rw [if_neg (by show ¬ ((kind : Nat) : Int) = 6; omega)] at hw
    have hw : entW (rdS (some d)) k = w := by rw [← hw]; rfl
    refine gone_kept k3 zero_u hl hl' hR (fun n => ?_) (no_hide k1 k2 k3 hP hmin)
    rw [hr n, ← hw]; rfl
   ·rw [if_pos rfl] at hw
    obtain ⟨n, i, hn, hi, e⟩ := cutK_is (f := rdS (some d)) (b := ((b : Nat) : Int)) (own_some hb)
    have hRI := hR (n : Nat)
    obtain ⟨c1, c2, c3, c4⟩ := cutI_RI hRI (by omega) hi
    have hw : cutW1 n (cutI (inoAt (rdS (some d)) (n : Nat)) i) = w := e.symm.trans hw
    have hs : w.s = inoS (cutI (inoAt (rdS (some d)) (n : Nat)) i) := by rw [← hw]; exact if_pos c1
    have ha : w.a = 1 + (n : Nat) := by rw [← hw]; rfl
    obtain ⟨o1, o2⟩ := inoOf_S c1
    have hv : rdS (some (wrD d w)) (1 + (n : Nat)) = inoS (cutI (inoAt (rdS (some d)) (n : Nat)) i) := by rw [hr, if_pos ha.symm, hs]
    refine cut_kept (x := cutI (inoAt (rdS (some d)) (n : Nat)) i) hn hl hl' hR (fun q => ?_) ?_ rfl (cut_data _ hl hRI (by omega) hi) c1
    ·by_cases hq : q = 1 + (n : Nat)
     ·rw [if_pos hq, hq]
     ·rw [if_neg hq, hr q, if_neg (by omega)]
    ·unfold inoAt
     rw [if_pos (by omega), hv]; exact o2
theorem it_kept {d : Dk} (h : Mnt d) : ∀ i, Kept (rdS (some d)) (rdS (some (itD d i)))
 | 0 => Kept.refl _
 | i + 1 => (it_kept h i).trans (step_kept (it_mnt h i))
theorem clean_oneway {d : Dk} (h : probsD (some d) = []) : OneWay (rdS (some d)) := by
 intro i j hi hj ui uj e
 have hall : ∀ {q k : Nat}, q < 5 → k < 24 → prbP (dod (some d)) (xI (rdS (some d)) 16) (xE (rdS (some d)) 24) (reachR (kdI (xI (rdS (some d)) 16)) (xE (rdS (some d)) 24)) (q + 1) k = false := by
  intro q k hq hk
  cases hb : prbP (dod (some d)) (xI (rdS (some d)) 16) (xE (rdS (some d)) 24) (reachR (kdI (xI (rdS (some d)) 16)) (xE (rdS (some d)) 24)) (q + 1) k with
  | false => rfl
  | true =>
   exfalso
   refine prbK_ne hq hk hb ?_
   unfold probsD probs at h
   exact (List.append_eq_nil_iff.1 h).1
 have key : ∀ {a b : Nat}, a < b → b < 24 → (entAt (rdS (some d)) (a : Nat)).u = true → (entAt (rdS (some d)) (b : Nat)).u = true → (entAt (rdS (some d)) (a : Nat)).t = (entAt (rdS (some d)) (b : Nat)).t → False := by
  intro a b hab hb ua ub et
  have h5 := hall (q := 4) (k := b) (by omega) hb
  rw [prb5, xE_getD _ hb, ub, Bool.true_and, List.any_eq_false] at h5
  refine h5 (entAt (rdS (some d)) (a : Nat)) ?_ ?_
  ·refine List.mem_take_iff_getElem.2 ⟨a, by rw [xE_len]; omega, ?_⟩
   rw [xE_get, if_pos (by omega)]
  ·rw [ua, et]; simp
 rcases Nat.lt_trichotomy i j with hlt | he | hgt
 ·exact (key hlt hj ui uj e).elim
 ·exact he
 ·exact (key hgt hi uj ui e.symm).elim
theorem clean_tree {d : Dk} (h : probsD (some d) = []) : (treeV (rdS (some d))).2 = true :=
 tree_few (tree_law _) (clean_oneway h) fun j hj hu => (ent_RE hu).2.2
end Go.Proofs.YtmfokpfddponjaaGreatDoor
namespace Go.Proofs.YtmfokpfddponjaaGreatDoor
open Go.Sy
def imgL (d : Dk) : List (List UInt8) := (List.range 65).map fun k : Nat => rdS (some d) (k : Nat)
def oldD (d : Dk) : Dk := ⟨0, imgL d, [], [], 0⟩
theorem imgL_len (d : Dk) : (imgL d).length = 65 := by unfold imgL; rw [List.length_map, List.length_range]
theorem rd_old {d : Dk} (h : Mnt d) : rdS (some (oldD d)) = rdS (some d) := by
 funext n
 have hl : (oldD d).safe.length = 65 := imgL_len d
 by_cases hn : 0 ≤ n ∧ n < 65
 ·have e1 : rdS (some (oldD d)) n = (imgL d).getD n.toNat zeroS := by
   show (if 0 ≤ n ∧ n < (oldD d).safe.length then _ else _) = _
   rw [hl, if_pos (by omega)]; rfl
  rw [e1]
  unfold imgL
  rw [List.getD_eq_getElem?_getD, List.getElem?_map, List.getElem?_range (by omega)]
  show rdS (some d) ((n.toNat : Nat) : Int) = _
  rw [show ((n.toNat : Nat) : Int) = n by omega]
 ·have e1 : rdS (some (oldD d)) n = zeroS := by
   show (if 0 ≤ n ∧ n < (oldD d).safe.length then _ else _) = _
   rw [hl, if_neg (by omega)]
  have e2 : rdS (some d) n = zeroS := by
   show (if 0 ≤ n ∧ n < d.safe.length then _ else _) = _
   rw [h.n, if_neg (by omega)]
  rw [e1, e2]
theorem old_mnt {d : Dk} (h : Mnt d) : Mnt (oldD d) := by
 refine ⟨fun s hs => ?_, (fun w hw => by cases hw), imgL_len d, ?_, ?_, ?_⟩
 ·obtain ⟨k, _, rfl⟩ := List.mem_map.1 hs
  exact mnt_len h _
 ·rw [rd_old h]; exact h.f0
 ·rw [rd_old h]; exact h.f1
 ·rw [rd_old h]; exact h.f2
theorem old_OK {d : Dk} (h : Mnt d) : DkOK (some (oldD d)) := dkOK_of (old_mnt h) (by show ([] : List Wr).length ≤ _; decide)
theorem look_kept {f f' : Int → List UInt8} (h : Kept f f') {p : List UInt8} {m : Int} (hl : lookP f' p = (m, 0)) : lookP f p = (m, 0) := by
 unfold lookP at hl ⊢
 by_cases q : (splitP p).2 = 0
 ·rw [if_pos q] at hl ⊢; exact h.look _ _ hl
 ·rw [if_neg q] at hl; exact absurd (Prod.ext_iff.1 hl).2 q
structure NodKept (f f' : Int → List UInt8) (x : Nod) (m : Int) : Prop where
 look : lookP f' x.p = (m, 0)
 old : lookP f x.p = (m, 0)
 kind : (inoAt f' m).k = 1 ∧ (inoAt f m).k = 1 ∧ x.d = false ∨ (inoAt f' m).k = 2 ∧ (inoAt f m).k = 2 ∧ x.d = true
 data : ∃ r, dataV f (inoAt f m) = x.x ++ r
theorem nod_kept {f f' : Int → List UInt8} (h : Kept f f') {x : Nod} {m : Int} (hx : NodOK f' x m) : NodKept f f' x m := by
 refine ⟨hx.look, look_kept h hx.look, ?_, ?_⟩
 ·rw [h.kind m] at *
  have hk := hx.kind
  rw [h.kind m] at hk
  rcases hk with ⟨a, b⟩ | ⟨a, b⟩
  ·exact .inl ⟨a, a, b⟩
  ·exact .inr ⟨a, a, b⟩
 ·rw [hx.data]; exact h.data m
end Go.Proofs.YtmfokpfddponjaaGreatDoor
namespace Go.Proofs.YtmfokpfddponjaaGreatDoor
open Go.Sy
theorem from_ok (l : List (List UInt8)) (h : 1 ≤ l.length ∧ l.length ≤ 65) : FnC Tryz.prog 7 [.d (.fs 32 (l.map encS))] (.tup [.d (encD (some ⟨0, l, [], [], 0⟩)), .d (.it .i64 0)]) := by
 have hl : (l.map encS).length = l.length := List.length_map ..
 have hne : (l.map encS).isEmpty = false := by
  cases l with
  | nil => simp at h
  | cons => rfl
 refine FnC.introW ti_ok Tryz.func7 rfl Tryz.ntmps7 Tryz.call7 rfl (Nat.le_of_ble_eq_true rfl) rfl ?_
 (repeat' ((conv=>whnf);first|with_reducible refine gA ?_|((with_reducible refine callE_id ?_); refine CallE.inl ?_) | with_reducible refine CallI.inl ti_ok i21 rfl ?_ | with_reducible refine CallI.inl ti_ok i22 rfl ?_ | with_reducible refine Spl.no hne ?_|(with_reducible first|refine gB ?_|refine gZ (fun x hx hu=>?_)|refine gY (fun x hx=>?_)|refine gE ?_|refine Both.mk ?_ ?_|refine gS (fun h=>?_) (fun h=>?_)|refine Spl.nt ?_|refine Spl.mk (fun h=>?_) (fun h=>?_))))
 refine ⟨⟨[(2, .d (.fp 6 (encDk ⟨0, l, [], [], 0⟩))), (3, .d (.it .i64 0))], [], 8⟩, Wk.trans (Wk.vwL (τ := ⟨[(2, .ptr 6 0), (3, .d (.it .i64 0))], [(6, .cells 6 ((encDk ⟨0, l, [], [], 0⟩).map AV.d))], 8⟩) (And.intro (Vw.eq (by with_unfolding_all exact rfl)) (And.intro (Vw.eq (by with_unfolding_all exact rfl)) trivial)) ?_ rfl) (Wk.frzPL 6 6 ((encDk ⟨0, l, [], [], 0⟩).map AV.d) rfl (And.intro ⟨_, rfl, .inr ⟨encDk ⟨0, l, [], [], 0⟩, rfl, rfl, rfl⟩⟩ (And.intro ⟨_, rfl, .inl rfl⟩ trivial)) trivial rfl), ?_⟩
 ·exact And.intro (VwO.cells _ _ _ (.cons (Vw.eq rfl) rfl (.cons (Vw.eq rfl) rfl (.cons (Vw.ts' rfl) rfl (.cons (Vw.nl' rfl) rfl (.cons (Vw.nl' rfl) rfl (.cons (Vw.eq rfl) rfl .nil))))))) trivial
 ·rfl
def imgK (d : Dk) (k : Nat) : List (List UInt8) := (List.range k).map fun i : Nat => rdS (some d) (i : Nat)
theorem imgK_len (d : Dk) (k : Nat) : (imgK d k).length = k := by unfold imgK; rw [List.length_map, List.length_range]
theorem imgK_succ (d : Dk) (k : Nat) : imgK d (k + 1) = imgK d k ++ [rdS (some d) (k : Nat)] := by unfold imgK; rw [List.range_succ, List.map_append]; rfl
def imB (d : Dk) (T0 : Nat) (k : Nat) : S := ⟨[(0, .ptr 0 0), (3, .ts 32 ((imgK d k).map encS) 6), (4, .d (.it .i64 k))], [(6, .tail 54 true), (0, .cells 6 [.d (.ot (.map none)), .d (.it .i64 d.nx), .d (.fs 32 (d.safe.map encS)), .ts 36 (d.wait.map encW) 1, .ts 38 d.log 2, .d (.it .i64 d.ep)]), (1, .tail 58 true), (2, .tail 106 true), (3, .frame 4 [(0, .ptr 0 0)]), (4, .tag 0 T0)], 7⟩
theorem imageH_ok (d : Dk) (hd : DkOK (some d)) : FnH Tryz.prog 8 [.ptr 0 0] (dObs d) 3 [0] (.d (.fs 32 ((imgL d).map encS))) (dObs d) 3 := by
 refine FnH.intro ti_ok Tryz.func8 rfl Tryz.ntmps8 Tryz.call8 rfl rfl rfl (Nat.le_refl _) rfl rfl rfl rfl rfl (fun T => ?_)
 (repeat' ((conv=>whnf);first|with_reducible refine gA ?_|(with_reducible first|refine gB ?_|refine gZ (fun x hx hu=>?_)|refine gY (fun x hx=>?_)|refine gE ?_|refine Both.mk ?_ ?_|refine gS (fun h=>?_) (fun h=>?_)|refine Spl.nt ?_|refine Spl.mk (fun h=>?_) (fun h=>?_))))
 refine loop_rule ti_ok (fun k : Nat => k ≤ 65) (imB d (T 0)) (fun k => 65 - k) 0 (Nat.zero_le _) ⟨And.intro rfl (And.intro rfl (And.intro rfl trivial)), And.intro rfl (And.intro rfl (And.intro rfl (And.intro rfl (And.intro rfl (And.intro rfl trivial))))), rfl⟩ ?_
 intro k hk
 rcases Nat.lt_or_ge k 65 with hkl | hkl
 ·have hr : FnC Tryz.prog 19 [.d (.fp 6 (encDk d)), .d (.it .i64 (k : Nat))] (.tup [.dg 32 (encS (rdS (some d) (k : Nat))), .d (.it .i64 (rdE (some d) (k : Nat)))]) := read_ok (some d) hd (k : Nat)
  have hs := rdS_len hd (k : Nat)
  have hstep := imgK_succ d k
  have hlen := imgK_len d k
  generalize rdE (some d) (k : Nat) = e at hr
  generalize rdS (some d) (k : Nat) = S at hr hs hstep
  obtain ⟨g, rfl⟩ := is32 hs
  (repeat' ((conv=>whnf);first|with_reducible refine gA ?_|((with_reducible refine callI_id ?_); refine CallI.byR (CallR.mk ⟨[.d (.fp 6 (encDk d)), .d (.it .i64 (k : Nat))], _, And.intro ⟨6, _, by with_unfolding_all exact rfl, Nat.le_refl _, rfl, rfl⟩ (And.intro rfl trivial), hr, by with_unfolding_all exact rfl, ?_⟩))|(with_reducible first|refine gB ?_|refine gZ (fun x hx hu=>?_)|refine gY (fun x hx=>?_)|refine gE ?_|refine Both.mk ?_ ?_|refine gS (fun h=>?_) (fun h=>?_)|refine Spl.nt ?_|refine Spl.mk (fun h=>?_) (fun h=>?_))))
  refine again (k + 1) hkl (by dsimp only; omega) (And.intro rfl (And.intro (ts_eq ?_) (And.intro (it_eq (by omega)) trivial))) (And.intro rfl (And.intro rfl (And.intro rfl (And.intro rfl (And.intro rfl (And.intro rfl trivial)))))) rfl
  rw [hstep, List.map_append]
  rfl
 ·obtain rfl : k = 65 := by omega
  (repeat' ((conv=>whnf);first|with_reducible refine gA ?_|(with_reducible first|refine gB ?_|refine gZ (fun x hx hu=>?_)|refine gY (fun x hx=>?_)|refine gE ?_|refine Both.mk ?_ ?_|refine gS (fun h=>?_) (fun h=>?_)|refine Spl.nt ?_|refine Spl.mk (fun h=>?_) (fun h=>?_))))
  exact ⟨⟨[(2, .d (.fs 32 ((imgL d).map encS)))], [(0, .cells 6 [.d (.ot (.map none)), .d (.it .i64 d.nx), .d (.fs 32 (d.safe.map encS)), .ts 36 (d.wait.map encW) 1, .ts 38 d.log 2, .d (.it .i64 d.ep)]), (1, .tail 58 true), (2, .tail 106 true), (3, .frame 4 [(0, .ptr 0 0)]), (4, .tag 0 (T 0))], 7⟩,
   Wk.vwL (And.intro (Vw.ts' rfl) trivial) (And.intro (VwO.same _) (And.intro (VwO.same _) (And.intro (VwO.same _) (And.intro (VwO.same _) (And.intro (VwO.same _) trivial))))) rfl, rfl, And.intro rfl (And.intro rfl (And.intro rfl trivial)), And.intro rfl (And.intro rfl trivial)⟩
end Go.Proofs.YtmfokpfddponjaaGreatDoor
namespace Go.Proofs.YtmfokpfddponjaaGreatDoor
open Go.Sy
theorem take_bytes {S : List UInt8} {n : Nat} : (bytesD S).take n = bytesD (S.take n) := by unfold bytesD; rw [List.map_take]
theorem bytes_pre {xx r : List UInt8} {K : List UInt8 → Prop} (h : K xx) : ∃ l, List.take ((xx.length : Int)).toNat (bytesD (xx ++ r)) = bytesD l ∧ K l :=
 ⟨xx, by rw [Int.toNat_natCast, take_bytes, List.take_left' rfl], h⟩
def kpA (E F : D) (T : List Nod) (k : Nat) : S := ⟨[(5, .d E), (6, .d F), (8, .d (.fp 1 [F])), (10, .d (.fs 3 (T.map encN))), (12, .d (.it .i64 k))], [], 0⟩
set_option maxHeartbeats 16000000 in
theorem keeps_m (m : List (List UInt8)) (hm : ImOK m) (ws : List Wr) (hw : WsOK ws) (hml : m.length ≤ 200) (hwl : ws.length ≤ 40) (hz : 1 ≤ m.length ∧ m.length ≤ 65) (hM : mntP (imgD (some (dskD m ws)))) :
  FnC Tryz.prog 3 [.d (encM m), .d (.fs 36 (ws.map encW))] (.d (.bl true)) := by
 have h1 : (m.map encS).length = m.length := List.length_map ..
 have h2 : (ws.map encW).length = ws.length := List.length_map ..
 have hmnt : ∀ d : Dk, Mnt d → d.wait.length ≤ 100000 → FnC Tryz.prog 6 [.d (.fp 6 (encDk d))] (.d (.bl true)) := fun d h hl => by
  have := mntd_ok d (dkOK_of h hl)
  rw [decide_eq_true (mnt_to h)] at this
  exact this
 have hnext := next38_ok
 have kk := knows38_ok
 have n0 := num38_ok 0
 have hd := diskH_ok m hm ws hw (by omega) hz
 have hOK : DkOK (some (dskD m ws)) := by
  have := dsk_OK (m := m) (ws := ws) hm hw (by omega)
  rw [show dskOf m ws = some _ from if_pos hz] at this
  exact this
 have hMn := mnt_of hOK hM
 have hm0 := hmnt _ hMn (by
  show (wts m.length ws).length ≤ _
  unfold wts
  rw [List.length_map]
  exact Nat.le_trans (List.length_filter_le _ _) (by omega))
 obtain ⟨i, hi88, hi, hj⟩ := it_end hMn
 have h88 := Nat.le_trans hi88 (mu_le _)
 have hwl0 : (dskD m ws).wait.length ≤ 40 := by
  show (wts m.length ws).length ≤ 40
  unfold wts
  rw [List.length_map]
  exact Nat.le_trans (List.length_filter_le _ _) (by omega)
 have hll : (dskD m ws).log.length ≤ 40 := by
  show ((wts m.length ws).map encEv).length ≤ 40
  rw [List.length_map]
  exact hwl0
 have hnx0 : (dskD m ws).nx = ws.length := rfl
 have hln := it_len (dskD m ws) i
 have hMi := it_mnt hMn i
 have hOKi := dkOK_of hMi (by omega)
 have hx := mendH_ok hnext hmnt (dskD m ws) hMn ⟨by omega, by omega, by omega, by omega⟩ i h88 hi hj
 have hkp := it_kept hMn i
 rw [← rd_old hMn] at hkp
 have hct := clean_tree (nextW_none.1 hi)
 have hI := imageH_ok _ hOK
 have hF := from_ok (imgL (dskD m ws)) (by rw [imgL_len]; omega)
 have hoK := old_OK hMn
 have hMo := mount_ok (some (oldD (dskD m ws))) hoK
 unfold mountV at hMo
 rw [if_pos (mnt_to (old_mnt hMn))] at hMo
 have a2 := tree_ok (some (itD (dskD m ws) i)) hOKi
 unfold tupN at a2
 rw [hct] at a2
 obtain ⟨t1, t2, t3, t4, t5⟩ := tree_law (rdS (some (itD (dskD m ws) i)))
 have t6 := fun x (hx : x ∈ (treeV (rdS (some (itD (dskD m ws) i)))).1) => nod_ok x (t3 x hx)
 have a5 := fun p => fun h => lookup_ok (some (itD (dskD m ws) i)) hOKi p h
 have b5 := fun p => fun h => lookup_ok (some (oldD (dskD m ws))) hoK p h
 have a6 := fun j => inode_ok (some (itD (dskD m ws) i)) hOKi j
 have b6 := fun j => inode_ok (some (oldD (dskD m ws))) hoK j
 have b7 := fun p j h => fun (hj : lookP (rdS (some (oldD (dskD m ws)))) p = (j, 0)) h1 => fsread_ok (fun l n q1 q2 q3 q4 => gather_ok l n q1 (by omega) q3 q4) (oldD (dskD m ws)) hoK p h j hj h1
 have hF : FnC Tryz.prog 7 [.d (.fs 32 ((imgL (dskD m ws)).map encS))] (.tup [.d (encD (some (oldD (dskD m ws)))), .d (.it .i64 0)]) := hF
 have a2 : FnC Tryz.prog 11 [.d (.fp 6 (encDk (itD (dskD m ws) i)))] _ := a2
 unfold pairA at a5 b5
 generalize treeV (rdS (some (itD (dskD m ws) i))) = T at *
 generalize rdS (some (itD (dskD m ws) i)) = f at *
 generalize rdS (some (oldD (dskD m ws))) = f0 at *
 have a5 : ∀ p : List UInt8, p.length ≤ 100000 → FnC Tryz.prog 12 [.d (.fp 6 (encDk (itD (dskD m ws) i))), .d (.st p)] (.tup [.d (.it .i64 (lookP f p).1), .d (.it .i64 (lookP f p).2)]) := a5
 have a6 : ∀ j : Int, FnC Tryz.prog 14 [.d (.fp 6 (encDk (itD (dskD m ws) i))), .d (.it .i64 j)] (.dg 6 (encI (inoAt f j))) := a6
 generalize encD (some (oldD (dskD m ws))) = F at *
 generalize itD (dskD m ws) i = dn at *
 generalize imgL (dskD m ws) = im at *
 generalize dskD m ws = d at *
 have hTl : (T.1.map encN).length = T.1.length := List.length_map ..
 refine FnC.intro ti_ok Tryz.func3 rfl Tryz.ntmps3 Tryz.call3 rfl (Nat.le_of_ble_eq_true rfl) rfl ?_
 (repeat' ((conv=>whnf);first|with_reducible refine gA ?_|((with_reducible refine callE_id ?_); first | (refine CallE.con ⟨_, kk, ?_⟩) | (refine CallE.con ⟨_, hF, ?_⟩) | (refine CallE.con ⟨_, hMo, ?_⟩) | (refine CallE.con ⟨_, a2, ?_⟩) | refine CallE.inl ?_) | ((with_reducible refine callI_id ?_); first | refine CallI.byH hd [] (by with_unfolding_all exact rfl) ⟨rfl, by decide, rfl⟩ trivial rfl rfl ?_ | refine CallI.byH hI [8, 9, 10] (by with_unfolding_all exact rfl) ⟨rfl, by decide, by with_unfolding_all exact rfl⟩ (And.intro rfl (And.intro rfl (And.intro rfl trivial))) rfl rfl ?_ | refine CallI.post (CallI.byH hx [8, 9, 10] (by with_unfolding_all exact rfl) ⟨rfl, by decide, by with_unfolding_all exact rfl⟩ (And.intro rfl (And.intro rfl (And.intro rfl trivial))) rfl rfl ⟨⟨[(5, .d (.fp 6 (encDk dn))), (6, .d F)], [], 11⟩, Wk.trans (Wk.vwL (τ := ⟨[(5, .ptr 8 0), (6, .d F)], [(8, .cells 6 ((encDk dn).map AV.d))], 11⟩) (And.intro (Vw.eq (by with_unfolding_all exact rfl)) (And.intro (Vw.eq (by with_unfolding_all exact rfl)) trivial)) (And.intro (VwO.cells _ _ _ (.cons (Vw.eq rfl) rfl (.cons (Vw.eq rfl) rfl (.cons (Vw.eq rfl) rfl (.cons (Vw.ts' rfl) rfl (.cons (Vw.ts' rfl) rfl (.cons (Vw.eq rfl) rfl .nil))))))) trivial) rfl) (Wk.frzPL 8 6 ((encDk dn).map AV.d) (by with_unfolding_all exact rfl) (And.intro ⟨_, rfl, .inr ⟨encDk dn, rfl, rfl, rfl⟩⟩ (And.intro ⟨_, rfl, .inl rfl⟩ trivial)) trivial rfl), ?_⟩) | refine CallI.byR (CallR.mk ⟨[.d (.fp 6 (encDk d))], _, And.intro ⟨6, _, by with_unfolding_all exact rfl, Nat.le_refl _, rfl, rfl⟩ trivial, hm0, rfl, ?_⟩))|(with_reducible first|refine gB ?_|refine gZ (fun x hx hu=>?_)|refine gY (fun x hx=>?_)|refine gE ?_|refine Both.mk ?_ ?_|refine gS (fun h=>?_) (fun h=>?_)|refine Spl.nt ?_|refine Spl.mk (fun h=>?_) (fun h=>?_))))
 refine loop_rule ti_ok (fun k : Nat => k ≤ T.1.length) (kpA (.fp 6 (encDk dn)) F T.1) (fun k => T.1.length - k) 0 (Nat.zero_le _) ⟨And.intro rfl (And.intro rfl (And.intro rfl (And.intro rfl (And.intro rfl trivial)))), trivial, rfl⟩ ?_
 intro k hk
 rcases Nat.lt_or_ge k T.1.length with hkl | hkl
 ·obtain ⟨x, hx⟩ := lt_get hkl
  obtain ⟨j, hj⟩ := t6 x (List.mem_of_getElem? hx)
  have hkn := nod_kept hkp hj
  have hl := a5 x.p (look_len hkn.look)
  have hl2 := b5 x.p (look_len hkn.look)
  rw [hkn.look] at hl
  rw [hkn.old] at hl2
  have hi := a6 j
  have hi2 := b6 j
  have hrd := b7 x.p j (look_len hkn.look) hkn.old
  obtain ⟨_, _, hkd, r, hr⟩ := hkn
  rw [hr] at hrd
  clear hr hj t6 t3 t4 t5 a5 b5 b6 a6 b7 hkp
  generalize inoAt f j = z at *
  generalize inoAt f0 j = z' at *
  obtain ⟨xp, xd, xx⟩ := x
  obtain ⟨zk, z1, z2, z3, z4, z5⟩ := z
  obtain ⟨yk, y1, y2, y3, y4, y5⟩ := z'
  dsimp only at hkd hl hl2 hrd
  have hbl : (bytesD (xx ++ r)).length = xx.length + r.length := by rw [bytesD_l, List.length_append]
  rcases hkd with ⟨rfl, rfl, rfl⟩ | ⟨rfl, rfl, rfl⟩
  ·have hrd := hrd rfl
   (repeat' ((conv=>whnf);first|with_reducible refine gA ?_|((with_reducible refine callE_id ?_); first | refine CallE.con ⟨_, hl, ?_⟩ | refine CallE.con ⟨_, hl2, ?_⟩ | refine CallE.con ⟨_, hi, ?_⟩ | refine CallE.con ⟨_, hi2, ?_⟩ | refine CallE.con ⟨_, n0, ?_⟩ | refine CallE.con ⟨_, hrd, ?_⟩) | ((with_reducible refine callP_id ?_); first | refine CallP.mk ⟨_, n0, ?_⟩) | with_reducible refine at_known hx ?_ | with_reducible refine bytes_pre ?_ | with_reducible refine Spl.yes (beq_self_eq_true _) ?_|(with_reducible first|refine gB ?_|refine gZ (fun x hx hu=>?_)|refine gY (fun x hx=>?_)|refine gE ?_|refine Both.mk ?_ ?_|refine gS (fun h=>?_) (fun h=>?_)|refine Spl.nt ?_|refine Spl.mk (fun h=>?_) (fun h=>?_))))
   all_goals first
    | exact again (k + 1) hkl (by dsimp only; omega) (And.intro rfl (And.intro rfl (And.intro rfl (And.intro rfl (And.intro rfl trivial))))) trivial rfl
    | (exfalso; dsimp only at *; omega)
    | (exfalso; simp_all; done)
  ·clear hrd
   (repeat' ((conv=>whnf);first|with_reducible refine gA ?_|((with_reducible refine callE_id ?_); first | refine CallE.con ⟨_, hl, ?_⟩ | refine CallE.con ⟨_, hl2, ?_⟩ | refine CallE.con ⟨_, hi, ?_⟩ | refine CallE.con ⟨_, hi2, ?_⟩ | refine CallE.con ⟨_, n0, ?_⟩) | ((with_reducible refine callP_id ?_); first | refine CallP.mk ⟨_, n0, ?_⟩) | with_reducible refine at_known hx ?_ | with_reducible refine Spl.yes (beq_self_eq_true _) ?_|(with_reducible first|refine gB ?_|refine gZ (fun x hx hu=>?_)|refine gY (fun x hx=>?_)|refine gE ?_|refine Both.mk ?_ ?_|refine gS (fun h=>?_) (fun h=>?_)|refine Spl.nt ?_|refine Spl.mk (fun h=>?_) (fun h=>?_))))
   all_goals first
    | exact again (k + 1) hkl (by dsimp only; omega) (And.intro rfl (And.intro rfl (And.intro rfl (And.intro rfl (And.intro rfl trivial))))) trivial rfl
    | (exfalso; dsimp only at *; omega)
    | (exfalso; simp_all; done)
 ·(repeat' ((conv=>whnf);first|with_reducible refine gA ?_|(with_reducible first|refine gB ?_|refine gZ (fun x hx hu=>?_)|refine gY (fun x hx=>?_)|refine gE ?_|refine Both.mk ?_ ?_|refine gS (fun h=>?_) (fun h=>?_)|refine Spl.nt ?_|refine Spl.mk (fun h=>?_) (fun h=>?_))))
  rfl
end Go.Proofs.YtmfokpfddponjaaGreatDoor
namespace Go.Proofs.YtmfokpfddponjaaGreatDoor
open Go.Sy
theorem keeps_ok (m : List (List UInt8)) (hm : ImOK m) (ws : List Wr) (hw : WsOK ws) : FnC Tryz.prog 3 [.d (encM m), .d (.fs 36 (ws.map encW))] (.d (.bl true)) := by
 have h1 : (m.map encS).length = m.length := List.length_map ..
 have h2 : (ws.map encW).length = ws.length := List.length_map ..
 have kk := knows38_ok
 by_cases hs : m.length ≤ 200 ∧ ws.length ≤ 40
 ·by_cases hz : 1 ≤ m.length ∧ m.length ≤ 65
  ·by_cases hM : mntP (imgD (some (dskD m ws)))
   ·exact keeps_m m hm ws hw hs.1 hs.2 hz hM
   ·have hd := diskH_ok m hm ws hw (by omega) hz
    have hOK : DkOK (some (dskD m ws)) := by
     have := dsk_OK (m := m) (ws := ws) hm hw (by omega)
     rw [show dskOf m ws = some _ from if_pos hz] at this
     exact this
    have hm0 := mntd_ok (dskD m ws) hOK
    rw [decide_eq_false hM] at hm0
    generalize dskD m ws = d at *
    refine FnC.intro ti_ok Tryz.func3 rfl Tryz.ntmps3 Tryz.call3 rfl (Nat.le_of_ble_eq_true rfl) rfl ?_
    (repeat' ((conv=>whnf);first|with_reducible refine gA ?_|((with_reducible refine callE_id ?_); first | (refine CallE.con ⟨_, kk, ?_⟩) | refine CallE.inl ?_) | ((with_reducible refine callI_id ?_); first | refine CallI.byH hd [] (by with_unfolding_all exact rfl) ⟨rfl, by decide, rfl⟩ trivial rfl rfl ?_ | refine CallI.byR (CallR.mk ⟨[.d (.fp 6 (encDk d))], _, And.intro ⟨6, _, by with_unfolding_all exact rfl, Nat.le_refl _, rfl, rfl⟩ trivial, hm0, rfl, ?_⟩))|(with_reducible first|refine gB ?_|refine gZ (fun x hx hu=>?_)|refine gY (fun x hx=>?_)|refine gE ?_|refine Both.mk ?_ ?_|refine gS (fun h=>?_) (fun h=>?_)|refine Spl.nt ?_|refine Spl.mk (fun h=>?_) (fun h=>?_))))
    rfl
  ·have kd := disk_ok m hm ws hw (by omega) (by omega)
   rw [show dskOf m ws = none from if_neg hz] at kd
   have kd : FnC Tryz.prog 5 [.d (encM m), .d (.fs 36 (ws.map encW))] (.d (.ot (.pointer none))) := kd
   have km : FnC Tryz.prog 6 [.d (.ot (.pointer none))] (.d (.bl (decide (mntP (imgD none))))) := mounted_ok none trivial
   rw [decide_eq_false (by intro h; exact absurd h.1 (by decide))] at km
   refine FnC.intro ti_ok Tryz.func3 rfl Tryz.ntmps3 Tryz.call3 rfl (Nat.le_of_ble_eq_true rfl) rfl ?_
   (repeat' ((conv=>whnf);first|with_reducible refine gA ?_|((with_reducible refine callE_id ?_); first | (refine CallE.con ⟨_, kk, ?_⟩) | (refine CallE.con ⟨_, kd, ?_⟩) | (refine CallE.con ⟨_, km, ?_⟩))|(with_reducible first|refine gB ?_|refine gZ (fun x hx hu=>?_)|refine gY (fun x hx=>?_)|refine gE ?_|refine Both.mk ?_ ?_|refine gS (fun h=>?_) (fun h=>?_)|refine Spl.nt ?_|refine Spl.mk (fun h=>?_) (fun h=>?_))))
   rfl
 ·refine FnC.intro ti_ok Tryz.func3 rfl Tryz.ntmps3 Tryz.call3 rfl (Nat.le_of_ble_eq_true rfl) rfl ?_
  by_cases s1 : m.length ≤ 200
  all_goals (repeat' ((conv=>whnf);first|with_reducible refine gA ?_|((with_reducible refine callE_id ?_); (refine CallE.con ⟨_, kk, ?_⟩))|(with_reducible first|refine gB ?_|refine gZ (fun x hx hu=>?_)|refine gY (fun x hx=>?_)|refine gE ?_|refine Both.mk ?_ ?_|refine gS (fun h=>?_) (fun h=>?_)|refine Spl.nt ?_|refine Spl.mk (fun h=>?_) (fun h=>?_))))
  all_goals first | rfl | (exfalso; omega)
end Go.Proofs.YtmfokpfddponjaaGreatDoor
namespace Go.Proofs.YtmfokpfddponjaaGreatDoor
open Go.Sy Go.ChangeShapes Go.WideShapes Go.ChangeAt Go.RowKit
def plainT : List Nat := [5, 54, 22, 3, 56, 58, 23]
theorem closed : closedB ti plainT = true := by decide +kernel
theorem shp_byte {n : Nat} {ds : List D} (h : Shp ti n 5 ds) : ∃ b : UInt8, ds = [.it .u8 b.toNat] := by
 match n, h with
 | n + 1, h =>
  obtain ⟨z, rfl, h1, h2⟩ := h
  have h1' : (0 : Int) ≤ z := h1
  have h2' : z ≤ 255 := h2
  refine ⟨by8e z, ?_⟩
  rw [by8e_ok (by omega)]
theorem shp_bytes {n : Nat} : ∀ {m : Nat} {ds : List D}, ShpN (Shp ti n 5) m ds → ∃ s : List UInt8, s.length = m ∧ ds = encS s
 | 0, ds, h => ⟨[], rfl, h⟩
 | m + 1, ds, h => by
  obtain ⟨a, b, rfl, h1, h2⟩ := h
  obtain ⟨c, rfl⟩ := shp_byte h1
  obtain ⟨s, hs, rfl⟩ := shp_bytes h2
  exact ⟨c :: s, by simp [hs], rfl⟩
theorem shp_sec {n : Nat} {ds : List D} (h : Shp ti n 54 ds) : ∃ s : List UInt8, s.length = 32 ∧ ds = encS s := by
 match n, h with
 | n + 1, h => exact shp_bytes (n := n) (m := 32) h
theorem shp_secs {n : Nat} : ∀ {es : List (List D)}, (∀ x ∈ es, Shp ti n 54 x) → ∃ m : List (List UInt8), ImOK m ∧ es = m.map encS
 | [], _ => ⟨[], (fun s hs => by cases hs), rfl⟩
 | x :: es, h => by
  obtain ⟨s, hs, rfl⟩ := shp_sec (h x List.mem_cons_self)
  obtain ⟨m, hm, rfl⟩ := shp_secs (fun y hy => h y (List.mem_cons_of_mem _ hy))
  refine ⟨s :: m, fun t ht => ?_, rfl⟩
  rcases List.mem_cons.1 ht with rfl | ht
  ·exact hs
  ·exact hm t ht
theorem shp_img {n : Nat} {x : D} (h : Shp ti n 22 [x]) : ∃ m : List (List UInt8), ImOK m ∧ x = encM m := by
 match n, h with
 | n + 1, h =>
  obtain ⟨es, hl, _, he⟩ := h
  obtain ⟨m, hm, rfl⟩ := shp_secs he
  exact ⟨m, hm, by simpa using hl⟩
theorem shp_int {n : Nat} {ds : List D} (h : Shp ti n 3 ds) : ∃ z : Int, ds = [.it .i64 z] := by
 match n, h with
 | n + 1, h =>
  obtain ⟨z, rfl, _⟩ := h
  exact ⟨z, rfl⟩
theorem shp_wr {n : Nat} {ds : List D} (h : Shp ti n 58 ds) : ∃ w : Wr, w.s.length = 32 ∧ ds = encW w := by
 match n, h with
 | n + 1, h =>
  obtain ⟨a, b, rfl, ha, c, d, rfl, hc, e, f, rfl, he, g, q, rfl, hg, rfl⟩ := h
  obtain ⟨za, rfl⟩ := shp_int ha
  obtain ⟨s, hs, rfl⟩ := shp_sec hc
  obtain ⟨ze, rfl⟩ := shp_int hg
  match n, he with
  | n + 1, he =>
   obtain ⟨k, i, rfl, hk, j, r, rfl, hj, rfl⟩ := he
   obtain ⟨zk, rfl⟩ := shp_int hk
   obtain ⟨zj, rfl⟩ := shp_int hj
   exact ⟨⟨za, s, zk, zj, ze⟩, hs, by simp [encW]⟩
theorem shp_wrs {n : Nat} : ∀ {es : List (List D)}, (∀ x ∈ es, Shp ti n 58 x) → ∃ l : List Wr, WsOK l ∧ es = l.map encW
 | [], _ => ⟨[], (fun s hs => by cases hs), rfl⟩
 | x :: es, h => by
  obtain ⟨s, hs, rfl⟩ := shp_wr (h x List.mem_cons_self)
  obtain ⟨m, hm, rfl⟩ := shp_wrs (fun y hy => h y (List.mem_cons_of_mem _ hy))
  refine ⟨s :: m, fun t ht => ?_, rfl⟩
  rcases List.mem_cons.1 ht with rfl | ht
  ·exact hs
  ·exact hm t ht
theorem shp_ws {n : Nat} {x : D} (h : Shp ti n 23 [x]) : ∃ l : List Wr, WsOK l ∧ x = .fs 36 (l.map encW) := by
 match n, h with
 | n + 1, h =>
  obtain ⟨es, hl, _, he⟩ := h
  obtain ⟨m, hm, rfl⟩ := shp_wrs he
  exact ⟨m, hm, by simpa using hl⟩
theorem own : ownKnob Tryz.prog.godebug = none := by kernel_rfl
theorem laidOut : laidOutB Tryz.prog = true := by kernel_rfl
namespace tells
theorem contract (H : Type) (enc : TypeId × Value → H) (W : World) (base : Nat) (args : Array Value) (ds gs : List (DataW H)) (before : List MemPlace)
  (hval : ∀ (j : Nat) t v, Tryz.f3.params[j]? = some t → args[j]? = some v → Value.okWide Tryz.prog W .any base t v)
  (hW : DataW.Whole enc Tryz.prog Tryz.f3.params.toList Rows.mendKeepsSpec.vars false W args.toList ds gs before) :
  Calls Tryz.prog 3 args W fun e W' => ∃ v, e = .returned v ∧ Rows.mendKeepsSpec.post enc Tryz.prog Tryz.f3 false true false false W args v W' := by
 have hW' := hW
 obtain ⟨p, q, hA, hV, rfl, _, _⟩ := hW
 have hA' : DataW.TrodAll enc Tryz.prog W 0 (fun _ => true) true [22, 23] args.toList ds p := hA
 obtain ⟨v0, _, d0, _, p0, _, e0, rfl, _, h0, hA1⟩ := trodAll_cons hA'
 obtain ⟨v1, _, d1, _, p1, _, rfl, rfl, _, h1, hA2⟩ := trodAll_cons hA1
 obtain ⟨rfl, rfl, _⟩ := trodAll_nil hA2
 obtain rfl : args = #[v0, v1] := by cases args; simp_all
 obtain ⟨rfl, rfl⟩ := trodVars_none hV
 obtain ⟨n0, x0, s0, a0⟩ := arg_one ti_ok closed (t := 22) (by decide) (ty := _) rfl rfl (hval 0 22 v0 rfl rfl) h0
 obtain ⟨n1, x1, s1, a1⟩ := arg_one ti_ok closed (t := 23) (by decide) (ty := _) rfl rfl (hval 1 23 v1 rfl rfl) h1
 obtain ⟨y0, g0, rfl⟩ := shp_img s0
 obtain ⟨y1, g1, rfl⟩ := shp_ws s1
 refine (FnC.enter (keeps_ok y0 g0 y1 g1) (Tryz.call3 _ _) rfl ?_).mono ?_
 ·intro j hj
  match j, hj with
  | 0, _ => exact a0
  | 1, _ => exact a1
 ·rintro e W' ⟨rfl, hB⟩
  exact ⟨_, rfl, law_post hW' rfl rfl rfl rfl rfl Tryz.underlying4 laidOut (by decide +kernel) hB⟩
noncomputable def wit : Array Value := #[.slice none 0 0, .slice none 0 0]
noncomputable def low : Nat := (World.holding Tryz.prog default ⟨#[], #[], []⟩).heap.size
noncomputable def laidWorld (os : Os) : World :=
 { World.holding Tryz.prog os ⟨#[.cells #[.string ⟨#[98, 121, 116, 101, 115, 46, 66, 117, 102, 102, 101, 114, 58, 32, 116, 111, 111, 32, 108, 97, 114, 103, 101]⟩] 268], #[], []⟩ with
  heap := (laidHeap (World.holding Tryz.prog os ⟨#[.cells #[.string ⟨#[98, 121, 116, 101, 115, 46, 66, 117, 102, 102, 101, 114, 58, 32, 116, 111, 111, 32, 108, 97, 114, 103, 101]⟩] 268], #[], []⟩).heap [(3, Rows.laid_unicode_utf8_acceptRanges), (2, Rows.laid_unicode_utf8_first)]).modify 0 fun
   | .cells _ t frozen => .cells #[.iface 254 (.pointer (some ⟨low, 0, none⟩))] t frozen
   | o => o }
theorem laid_met (os : Os) : laidMet Tryz.prog Rows.mendKeepsRow.laid ((laidWorld os).forCall (fun _ _ => 0) ⟨#[], wit, []⟩).memory :=
 laidMet_of_run' 8 (by kernel_rfl) (by kernel_rfl)
theorem reads (os : Os) {H : Type} (enc : TypeId × Value → H) : ∃ places, DataW.whole enc Tryz.prog ((laidWorld os).forCall (fun _ _ => 0) ⟨#[], wit, []⟩).memory Tryz.f3.params.toList Rows.mendKeepsSpec.vars false wit.toList 8 = some ([.nil, .nil], [], places) :=
 ⟨[], by kernel_rfl⟩
theorem lifted (os : Os) (started : os.Started) (H : Type) (enc : TypeId × Value → H) (F : Stop.Interp) :
  ReturnsInHanded {} Tryz.checked os 3 .any ((OpenSpec.ofChange Rows.mendKeepsSpec).preRow enc Tryz.prog Tryz.f3 Rows.mendKeepsRow.domain false Rows.mendKeepsRow.laid) (((OpenSpec.ofChange Rows.mendKeepsSpec).at F).post enc Tryz.prog Tryz.f3 false true false false) := by
 obtain ⟨places, hx⟩ := reads os enc
 refine returnsInHanded_of_row (C := Tryz.checked) (s := OpenSpec.ofChange Rows.mendKeepsSpec) own started (by kernel_rfl) Tryz.func3
  (witness_row_at (enc := enc) (C := Tryz.checked) false (laidWorld os) wit rfl (by kernel_rfl) (by kernel_rfl) (by kernel_rfl)
   (OpenSpec.preRow_of_cond 8 hx (by kernel_rfl) (fun k hk => by cases hk) (by kernel_rfl) (laid_met os))) ?_
 intro W base args ds gs before hval hW _ _ _ _ _ _
 exact contract H enc W base args ds gs before hval hW
theorem said : Rows.MendKeepsSaid :=
 OpenClaim.holds_of_cond 3 Tryz.f3 rfl rfl rfl rfl rfl rfl rfl ⟨rfl, rfl, rfl, rfl, rfl⟩ rfl rfl rfl rfl rfl (by kernel_rfl) Tryz.func3 (by kernel_rfl)
  (of_decide_eq_true (by kernel_rfl)) (by unfold Func.isWrapper; first | (rw [if_pos (by decide +kernel)]; kernel_rfl) | (rw [if_neg (by decide +kernel)]; exact ⟨rfl, rfl⟩))
  (fun os started H enc _ F => by rw [OpenClaim.pre_eq_preRow]; exact lifted os started H enc F)
theorem plain (f : FuncId) (fn : Func) (hf : Tryz.pinned.checked.prog.funcNamed "flotsam/flotsamlaw38.MendKeeps" = some f) (hfn : Tryz.pinned.checked.prog.funcs[f]? = some fn) :
  false = Tryz.pinned.checked.prog.looks [] ∧ ∀ (j : Nat) t, fn.params[j]? = some t → Tryz.pinned.checked.prog.wantsStandIn t = false := by
 obtain rfl : f = 3 := Option.some.inj ((show Tryz.prog.funcNamed "flotsam/flotsamlaw38.MendKeeps" = some 3 by kernel_rfl).symm.trans hf) |>.symm
 obtain rfl : fn = Tryz.f3 := (Option.some.inj (Tryz.func3.symm.trans hfn)).symm
 refine ⟨by kernel_rfl, fun j t ht => ?_⟩
 have hall : ∀ t ∈ Tryz.f3.params, Tryz.prog.wantsStandIn t = false := by decide +kernel
 exact hall t (Array.mem_of_getElem? ht)
theorem card : Rows.MendKeepsCardSaid :=
 Claim7.holds_tied_plain_at .later [] _ _ _ _ said (fun _ h => by cases h) (by kernel_rfl) (fun _ h => by cases h) mendKeeps_row_tie rfl ⟨rfl, rfl⟩ (by kernel_rfl) rfl plain (by kernel_rfl)
end tells
end Go.Proofs.YtmfokpfddponjaaGreatDoor
