/- Contracts of the functions that the law reaches, and the law. Conditions: none. -/
import Derived.Test.YtmfokpfddponjaaGreatDoorKD
import Derived.Test.YtmfokpfddponjaaGreatDoorSD
set_option maxRecDepth 100000
set_option linter.all false
namespace Go.Proofs.YtmfokpfddponjaaGreatDoor
open Go.Sy
def wrD (d : Dk) (w : Wr) : Dk := ⟨d.nx + 1, d.safe, d.wait ++ [{ w with e := d.ep }], d.log ++ [encEv { w with e := d.ep }], d.ep⟩
theorem rdS_wr (d : Dk) (w : Wr) (n : Int) (h : 0 ≤ w.a ∧ w.a < d.safe.length) : rdS (some (wrD d w)) n = if n = w.a then w.s else rdS (some d) n := by
 unfold rdS wrD
 dsimp only
 rw [lastAt_snoc]
 by_cases hn : n = w.a
 ·subst hn
  rw [if_pos h, if_pos rfl]
  simp
 ·rw [if_neg hn]
  have : ¬ w.a = n := fun e => hn e.symm
  simp only [this, if_false]
def entW (f : Int → List UInt8) (k : Nat) : Wr := ⟨17 + (k : Nat), zeroS, 3, (entAt f (k : Nat)).p, 0⟩
def posB (x : Ino) (b : Int) : Option Nat := if x.b0 = b then some 0 else if x.b1 = b then some 1 else if x.b2 = b then some 2 else if x.b3 = b then some 3 else none
def cutI (x : Ino) (i : Nat) : Ino := ⟨x.k, (i : Nat) * 32, if 0 < i then x.b0 else 0, if 1 < i then x.b1 else 0, if 2 < i then x.b2 else 0, if 3 < i then x.b3 else 0⟩
def cutW1 (n : Nat) (x : Ino) : Wr := ⟨1 + (n : Nat), if RI x then inoS x else zeroS, 2, (n : Nat), 0⟩
def w0 : Wr := ⟨0, zeroS, 0, 0, 0⟩
def cutS (o : Option Nat) (t : Bool) (n : Nat) (x : Ino) (r : Wr) : Wr :=
 match o with
 | some i => bif t then cutW1 n (cutI x i) else r
 | none => r
def cutK (f : Int → List UInt8) (b : Int) : Nat → Wr
 | 0 => w0
 | k + 1 => cutS (posB (inoAt f (k : Nat)) b) (decide (takP f (k : Nat))) k (inoAt f (k : Nat)) (cutK f b k)
theorem cutK_succ (f : Int → List UInt8) (b : Int) (k : Nat) : cutK f b (k + 1) = cutS (posB (inoAt f (k : Nat)) b) (decide (takP f (k : Nat))) k (inoAt f (k : Nat)) (cutK f b k) := rfl
def probsD (d : Option Dk) : List (Int × Int) := probs (dod d) (xI (rdS d) 16) (xE (rdS d) 24) (dOwn d)
def nextW (d : Option Dk) : Option Wr := match probsD d with
 | [] => none
 | p :: _ => some (if p.1 = 6 then cutK (rdS d) p.2 16 else entW (rdS d) p.2.toNat)
theorem probs_head {od : Nat → Bool} {I : List Ino} {E : List Ent} {own : Nat → Nat} {p : Int × Int} {t : List (Int × Int)} (h : probs od I E own = p :: t) :
  (∃ kind k : Nat, 1 ≤ kind ∧ kind ≤ 5 ∧ k < 24 ∧ p = (((kind : Nat) : Int), ((k : Nat) : Int)) ∧ prbP od I E (reachR (kdI I) E) kind k = true) ∨ ∃ b : Nat, 1 ≤ b ∧ b ≤ 24 ∧ p = ((6 : Int), ((b : Nat) : Int)) ∧ 1 < own b := by
 have hm : p ∈ probs od I E own := by rw [h]; exact List.mem_cons_self
 unfold probs prbK prbB at hm
 rcases List.mem_append.1 hm with hm | hm
 ·obtain ⟨j, hj, rfl⟩ := List.mem_map.1 hm
  obtain ⟨h1, h2⟩ := List.mem_filter.1 hj
  have h1 := List.mem_range.1 h1
  exact .inl ⟨j / 24 + 1, j % 24, by omega, by omega, by omega, rfl, h2⟩
 ·obtain ⟨j, hj, rfl⟩ := List.mem_map.1 hm
  obtain ⟨h1, h2⟩ := List.mem_filter.1 hj
  have h1 := List.mem_range.1 h1
  exact .inr ⟨j + 1, by omega, by omega, rfl, of_decide_eq_true h2⟩
theorem entAt_zero {f : Int → List UInt8} {k : Nat} (h : f (17 + (k : Nat)) = zeroS) : (entAt f (k : Nat)).u = false := by
 unfold entAt
 split
 ·rw [h]
  unfold entOf
  rw [if_neg zero_not]; rfl
 ·rfl
theorem prb_nz {d : Option Dk} {R : List Bool} {kind k : Nat} (hk : k < 24) (h1 : 1 ≤ kind ∧ kind ≤ 5) (h : prbP (dod d) (xI (rdS d) 16) (xE (rdS d) 24) R kind k = true) : rdS d (17 + (k : Nat)) ≠ zeroS := by
 intro hz
 have hu := entAt_zero hz
 have hk5 : kind = 1 ∨ kind = 2 ∨ kind = 3 ∨ kind = 4 ∨ kind = 5 := by omega
 unfold prbP at h
 rw [xE_getD _ hk] at h
 rcases hk5 with rfl | rfl | rfl | rfl | rfl
 ·have h : dod d k = true := h
  have h := of_decide_eq_true h
  have h2 := h.2
  rw [hz] at h2
  have : entOk zeroS = true := decide_eq_true (.inl rfl)
  rw [this] at h2; cases h2
 all_goals (simp only [hu, Bool.false_and] at h; cases h)
def sumK (g : Nat → Nat) : Nat → Nat
 | 0 => 0
 | k + 1 => sumK g k + g k
theorem sumK_eq {g g' : Nat → Nat} : ∀ {k : Nat}, (∀ i, i < k → g' i = g i) → sumK g' k = sumK g k
 | 0, _ => rfl
 | k + 1, h => by
  simp only [sumK]
  rw [sumK_eq (k := k) (fun i hi => h i (by omega)), h k (by omega)]
theorem sumK_lt {g g' : Nat → Nat} {n : Nat} : ∀ {k : Nat}, n < k → (∀ i, i < k → i ≠ n → g' i = g i) → g' n < g n → sumK g' k < sumK g k
 | 0, h, _, _ => by omega
 | k + 1, h, h1, h2 => by
  simp only [sumK]
  by_cases hk : n = k
  ·subst hk
   rw [sumK_eq (k := n) (fun i hi => h1 i (by omega) (by omega))]; omega
  ·rw [h1 k (by omega) (fun e => hk e.symm)]
   have := sumK_lt (k := k) (by omega) (fun i hi hn => h1 i (by omega) hn) h2
   omega
def nb (x : Ino) : Nat := (if x.b0 = 0 then 0 else 1) + (if x.b1 = 0 then 0 else 1) + (if x.b2 = 0 then 0 else 1) + (if x.b3 = 0 then 0 else 1)
def mu (f : Int → List UInt8) : Nat := sumK (fun k => if f (17 + (k : Nat)) = zeroS then 0 else 1) 24 + sumK (fun n => nb (inoAt f (n : Nat))) 16
theorem inoAt_one {f f' : Int → List UInt8} {n : Int} (h : f' (1 + n) = f (1 + n)) : inoAt f' n = inoAt f n := by unfold inoAt; rw [h]
theorem mu_ent {f f' : Int → List UInt8} {k : Nat} (hk : k < 24) (hz : f (17 + (k : Nat)) ≠ zeroS) (hf : ∀ n, f' n = if n = 17 + (k : Nat) then zeroS else f n) : mu f' < mu f := by
 unfold mu
 have h1 : sumK (fun k => if f' (17 + (k : Nat)) = zeroS then 0 else 1) 24 < sumK (fun k => if f (17 + (k : Nat)) = zeroS then 0 else 1) 24 := by
  refine sumK_lt (n := k) hk (fun i _ hne => ?_) ?_
  ·show (if f' (17 + (i : Nat)) = zeroS then 0 else 1) = _
   rw [show f' (17 + (i : Nat)) = f (17 + (i : Nat)) by rw [hf]; exact if_neg (by omega)]
  ·show (if f' _ = zeroS then 0 else 1) < (if f _ = zeroS then 0 else 1)
   rw [hf, if_pos rfl, if_pos rfl, if_neg hz]; exact Nat.one_pos
 have h2 : sumK (fun n => nb (inoAt f' (n : Nat))) 16 = sumK (fun n => nb (inoAt f (n : Nat))) 16 := by
  refine sumK_eq fun i hi => ?_
  show nb (inoAt f' _) = nb (inoAt f _)
  rw [inoAt_one (f := f) (f' := f') (by rw [hf, if_neg (by omega)])]
 omega
theorem mu_ino {f f' : Int → List UInt8} {n : Nat} {x : Ino} {s : List UInt8} (hn : n < 16) (hx : inoOf s = x) (hlt : nb x < nb (inoAt f (n : Nat))) (hf : ∀ q, f' q = if q = 1 + (n : Nat) then s else f q) : mu f' < mu f := by
 unfold mu
 have h1 : sumK (fun k => if f' (17 + (k : Nat)) = zeroS then 0 else 1) 24 = sumK (fun k => if f (17 + (k : Nat)) = zeroS then 0 else 1) 24 := by
  refine sumK_eq fun i hi => ?_
  show (if f' (17 + (i : Nat)) = zeroS then 0 else 1) = _
  rw [show f' (17 + (i : Nat)) = f (17 + (i : Nat)) by rw [hf]; exact if_neg (by omega)]
 have h2 : sumK (fun n => nb (inoAt f' (n : Nat))) 16 < sumK (fun n => nb (inoAt f (n : Nat))) 16 := by
  refine sumK_lt (n := n) hn (fun i _ hne => ?_) ?_
  ·show nb (inoAt f' _) = nb (inoAt f _)
   rw [inoAt_one (f := f) (f' := f') (by rw [hf, if_neg (by omega)])]
  ·have : inoAt f' (n : Nat) = x := by
    unfold inoAt
    rw [if_pos (by omega), hf, if_pos rfl, hx]
   show nb (inoAt f' _) < nb (inoAt f _)
   rw [this]; exact hlt
 omega
theorem cutI_RI {x : Ino} (h : RI x) {i : Nat} {b : Int} (hb : 1 ≤ b) (hp : posB x b = some i) : RI (cutI x i) ∧ nb (cutI x i) < nb x ∧ x.k = 1 ∧ i < 4 := by
 unfold posB at hp
 unfold RI at h
 by_cases e0 : x.b0 = b
 ·rw [if_pos e0] at hp
  obtain rfl := Option.some.inj hp
  have n0 : ¬ x.b0 = 0 := by omega
  refine ⟨?_, ?_, by omega, by omega⟩
  ·unfold RI cutI; simp; omega
  ·unfold nb cutI; simp [n0]; omega
 ·rw [if_neg e0] at hp
  by_cases e1 : x.b1 = b
  ·rw [if_pos e1] at hp
   obtain rfl := Option.some.inj hp
   have n0 : ¬ x.b0 = 0 := by omega
   have n1 : ¬ x.b1 = 0 := by omega
   refine ⟨?_, ?_, by omega, by omega⟩
   ·unfold RI cutI; simp; omega
   ·unfold nb cutI; simp [n0, n1]; omega
  ·rw [if_neg e1] at hp
   by_cases e2 : x.b2 = b
   ·rw [if_pos e2] at hp
    obtain rfl := Option.some.inj hp
    have n0 : ¬ x.b0 = 0 := by omega
    have n1 : ¬ x.b1 = 0 := by omega
    have n2 : ¬ x.b2 = 0 := by omega
    refine ⟨?_, ?_, by omega, by omega⟩
    ·unfold RI cutI; simp; omega
    ·unfold nb cutI; simp [n0, n1, n2]; omega
   ·rw [if_neg e2] at hp
    by_cases e3 : x.b3 = b
    ·rw [if_pos e3] at hp
     obtain rfl := Option.some.inj hp
     have n0 : ¬ x.b0 = 0 := by omega
     have n1 : ¬ x.b1 = 0 := by omega
     have n2 : ¬ x.b2 = 0 := by omega
     have n3 : ¬ x.b3 = 0 := by omega
     refine ⟨?_, ?_, by omega, by omega⟩
     ·unfold RI cutI; simp; omega
     ·unfold nb cutI; simp [n0, n1, n2, n3]
    ·rw [if_neg e3] at hp; cases hp
end Go.Proofs.YtmfokpfddponjaaGreatDoor
namespace Go.Proofs.YtmfokpfddponjaaGreatDoor
open Go.Sy
theorem inoOfR_S {x : Ino} (h : RI x) : inoOfR (inoS x) = x := by
 have hb := RI_byte h
 have e : ∀ n ∈ inoL x, ((by8 n).toNat : Int) = n := fun n hn => by8_ok (hb n hn)
 have e0 := e x.k (by simp [inoL])
 have e1 := e x.z (by simp [inoL])
 have e2 := e x.b0 (by simp [inoL])
 have e3 := e x.b1 (by simp [inoL])
 have e4 := e x.b2 (by simp [inoL])
 have e5 := e x.b3 (by simp [inoL])
 show Ino.mk _ _ _ _ _ _ = x
 cases x
 simp only [Ino.mk.injEq]
 exact ⟨e0, e1, e2, e3, e4, e5⟩
theorem inoOf_S {x : Ino} (h : RI x) : inoB (inoS x) ∧ inoOf (inoS x) = x := by
 have e := inoOfR_S h
 have hB : inoB (inoS x) := ⟨by rw [e]; exact h, by rw [e]⟩
 refine ⟨hB, ?_⟩
 unfold inoOf
 rw [if_pos hB, e]
theorem inoS_len (x : Ino) : (inoS x).length = 32 := rfl
theorem posB_some {x : Ino} {b : Int} (h : b ∈ blks x) : ∃ i, posB x b = some i := by
 unfold posB
 by_cases e0 : x.b0 = b
 ·exact ⟨0, if_pos e0⟩
 rw [if_neg e0]
 by_cases e1 : x.b1 = b
 ·exact ⟨1, if_pos e1⟩
 rw [if_neg e1]
 by_cases e2 : x.b2 = b
 ·exact ⟨2, if_pos e2⟩
 rw [if_neg e2]
 by_cases e3 : x.b3 = b
 ·exact ⟨3, if_pos e3⟩
 simp only [blks, List.mem_cons, List.not_mem_nil, or_false] at h
 omega
theorem cutK_is {f : Int → List UInt8} {b : Int} {k : Nat} (h : ∃ n, n < k ∧ b ∈ blks (inoAt f (n : Nat)) ∧ takP f (n : Nat)) : ∃ n i, n < k ∧ posB (inoAt f (n : Nat)) b = some i ∧ cutK f b k = cutW1 n (cutI (inoAt f (n : Nat)) i) := by
 induction k with
 | zero => obtain ⟨n, h, _⟩ := h; omega
 | succ k ih =>
  obtain ⟨n, hn, hb, ht⟩ := h
  by_cases hg : b ∈ blks (inoAt f (k : Nat)) ∧ takP f (k : Nat)
  ·obtain ⟨i, hi⟩ := posB_some hg.1
   refine ⟨k, i, by omega, hi, ?_⟩
   rw [cutK_succ, hi, decide_eq_true hg.2]; rfl
  ·have hnk : n ≠ k := fun e => hg (e ▸ ⟨hb, ht⟩)
   obtain ⟨q, i, h1, h2, h3⟩ := ih ⟨n, by omega, hb, ht⟩
   refine ⟨q, i, by omega, h2, ?_⟩
   rw [cutK_succ]
   cases hp : posB (inoAt f (k : Nat)) b with
   | none => exact h3
   | some j =>
    by_cases htk : takP f (k : Nat)
    ·by_cases hbk : b ∈ blks (inoAt f (k : Nat))
     ·exact absurd ⟨hbk, htk⟩ hg
     ·exfalso
      apply hbk
      unfold posB at hp
      simp only [blks, List.mem_cons, List.not_mem_nil, or_false]
      by_cases e0 : (inoAt f (k : Nat)).b0 = b
      ·exact .inl e0.symm
      rw [if_neg e0] at hp
      by_cases e1 : (inoAt f (k : Nat)).b1 = b
      ·exact .inr (.inl e1.symm)
      rw [if_neg e1] at hp
      by_cases e2 : (inoAt f (k : Nat)).b2 = b
      ·exact .inr (.inr (.inl e2.symm))
      rw [if_neg e2] at hp
      by_cases e3 : (inoAt f (k : Nat)).b3 = b
      ·exact .inr (.inr (.inr e3.symm))
      rw [if_neg e3] at hp; cases hp
    ·rw [decide_eq_false htk]; exact h3
theorem own_some {d : Option Dk} {b : Nat} (h : 1 < dOwn d b) : ∃ n, n < 16 ∧ ((b : Nat) : Int) ∈ blks (inoAt (rdS d) (n : Nat)) ∧ takP (rdS d) (n : Nat) := by
 unfold dOwn ownK at h
 cases hl : (List.range 16).filter fun i => decide (((fun i => (xI (rdS d) 16).getD i ino0) i).k = 1 ∧ ((b : Nat) : Int) ∈ blks ((fun i => (xI (rdS d) 16).getD i ino0) i)) && (fun i => decide (takP (rdS d) ((i : Nat) : Int))) i with
 | nil => rw [hl] at h; simp at h
 | cons n t =>
  have hm : n ∈ n :: t := List.mem_cons_self
  rw [← hl] at hm
  obtain ⟨h1, h2⟩ := List.mem_filter.1 hm
  have h1 := List.mem_range.1 h1
  simp only [Bool.and_eq_true, decide_eq_true_eq] at h2
  have e1 : (xI (rdS d) 16).getD n ino0 = inoAt (rdS d) (n : Nat) := by
   have h3 : n < (xI (rdS d) 16).length := by rw [xI_len]; exact h1
   rw [List.getD_eq_getElem?_getD, List.getElem?_eq_getElem h3, Option.getD_some, xI_get, if_pos h1]
  rw [e1] at h2
  exact ⟨n, h1, h2.1.2, h2.2⟩
structure Mnt (d : Dk) : Prop where
 s : ∀ s ∈ d.safe, s.length = 32
 w : ∀ w ∈ d.wait, w.s.length = 32
 n : d.safe.length = 65
 f0 : rdS (some d) 0 = superS
 f1 : inoB (rdS (some d) 1)
 f2 : (inoOf (rdS (some d) 1)).k = 2
theorem step_mnt {d : Dk} (h : Mnt d) {w : Wr} (hw : nextW (some d) = some w) : Mnt (wrD d w) ∧ mu (rdS (some (wrD d w))) < mu (rdS (some d)) ∧ 1 ≤ w.a ∧ w.a < 65 ∧ w.s.length = 32 := by
 have key : ∀ {a : Int} {s : List UInt8}, w.a = a → w.s = s → 1 ≤ a → a < 65 → s.length = 32 → (a = 1 → inoB s ∧ (inoOf s).k = 2) → (∀ f', (∀ n, f' n = if n = a then s else rdS (some d) n) → mu f' < mu (rdS (some d))) → Mnt (wrD d w) ∧ mu (rdS (some (wrD d w))) < mu (rdS (some d)) ∧ 1 ≤ w.a ∧ w.a < 65 ∧ w.s.length = 32 := by
  intro a s ha hs h1 h2 h3 h4 h5
  subst ha hs
  have hr := fun n => rdS_wr d w n ⟨by omega, by have := h.n; omega⟩
  refine ⟨⟨h.s, fun x hx => ?_, h.n, ?_, ?_, ?_⟩, h5 _ hr, h1, h2, h3⟩
  ·rcases List.mem_append.1 hx with hx | hx
   ·exact h.w x hx
   ·rw [List.mem_singleton.1 hx]; exact h3
  ·rw [hr, if_neg (by omega)]; exact h.f0
  ·rw [hr]
   by_cases e : (1 : Int) = w.a
   ·rw [if_pos e]; exact (h4 e.symm).1
   ·rw [if_neg e]; exact h.f1
  ·rw [hr]
   by_cases e : (1 : Int) = w.a
   ·rw [if_pos e]; exact (h4 e.symm).2
   ·rw [if_neg e]; exact h.f2
 unfold nextW at hw
 cases hp : probsD (some d) with
 | nil => rw [hp] at hw; cases hw
 | cons p t =>
  rw [hp] at hw
  have hw := Option.some.inj hw
  rcases probs_head hp with ⟨kind, k, k1, k2, k3, rfl, hP⟩ | ⟨b, b1, b2, rfl, hb⟩
  ·rw [if_neg (by show ¬ ((kind : Nat) : Int) = 6; omega)] at hw
   have hw : entW (rdS (some d)) k = w := by rw [← hw]; rfl
   have hz := prb_nz k3 ⟨k1, k2⟩ hP
   refine key (a := 17 + (k : Nat)) (s := zeroS) (by rw [← hw]; rfl) (by rw [← hw]; rfl) (by omega) (by omega) rfl (fun e => by omega) fun f' hf => mu_ent k3 hz hf
  ·rw [if_pos rfl] at hw
   obtain ⟨n, i, hn, hi, e⟩ := cutK_is (f := rdS (some d)) (b := ((b : Nat) : Int)) (own_some hb)
   have hRI := inoAt_RI (rdS (some d)) (n : Nat)
   obtain ⟨c1, c2, c3, c4⟩ := cutI_RI hRI (by omega) hi
   have hw : cutW1 n (cutI (inoAt (rdS (some d)) (n : Nat)) i) = w := e.symm.trans hw
   have hs : w.s = inoS (cutI (inoAt (rdS (some d)) (n : Nat)) i) := by rw [← hw]; exact if_pos c1
   obtain ⟨o1, o2⟩ := inoOf_S c1
   have hn0 : n ≠ 0 := by
    rintro rfl
    have e0 : inoAt (rdS (some d)) ((0 : Nat) : Int) = inoOf (rdS (some d) 1) := by unfold inoAt; rw [if_pos (by omega)]; rfl
    rw [e0, h.f2] at c3; cases c3
   exact key (a := 1 + (n : Nat)) (by rw [← hw]; rfl) hs (by omega) (by omega) (inoS_len _) (fun e => by omega) fun f' hf => mu_ino hn o2 c2 hf
def stepD (d : Dk) : Dk := match nextW (some d) with
 | none => d
 | some w => wrD d w
def itD (d : Dk) : Nat → Dk
 | 0 => d
 | i + 1 => stepD (itD d i)
theorem it_mnt {d : Dk} (h : Mnt d) : ∀ i, Mnt (itD d i)
 | 0 => h
 | i + 1 => by
  show Mnt (stepD (itD d i))
  unfold stepD
  cases hw : nextW (some (itD d i)) with
  | none => exact it_mnt h i
  | some w => exact (step_mnt (it_mnt h i) hw).1
theorem it_end {d : Dk} (h : Mnt d) : ∃ i, i ≤ mu (rdS (some d)) ∧ nextW (some (itD d i)) = none ∧ ∀ j, j < i → nextW (some (itD d j)) ≠ none := by
 have key : ∀ n i, mu (rdS (some (itD d i))) + i ≤ mu (rdS (some d)) → mu (rdS (some (itD d i))) ≤ n → (∀ j, j < i → nextW (some (itD d j)) ≠ none) → ∃ i, i ≤ mu (rdS (some d)) ∧ nextW (some (itD d i)) = none ∧ ∀ j, j < i → nextW (some (itD d j)) ≠ none := by
  intro n
  induction n with
  | zero =>
   intro i h1 h2 h3
   cases hw : nextW (some (itD d i)) with
   | none => exact ⟨i, by omega, hw, h3⟩
   | some w => have := (step_mnt (it_mnt h i) hw).2.1; omega
  | succ n ih =>
   intro i h1 h2 h3
   cases hw : nextW (some (itD d i)) with
   | none => exact ⟨i, by omega, hw, h3⟩
   | some w =>
    have hs := (step_mnt (it_mnt h i) hw).2.1
    have e : itD d (i + 1) = wrD (itD d i) w := by show stepD (itD d i) = _; unfold stepD; rw [hw]
    rw [← e] at hs
    refine ih (i + 1) (by omega) (by omega) fun j hj => ?_
    by_cases hji : j = i
    ·rw [hji, hw]; exact fun q => by cases q
    ·exact h3 j (by omega)
 exact key _ 0 (by show mu (rdS (some d)) + 0 ≤ _; omega) (Nat.le_refl _) (fun j hj => by omega)
theorem sumK_le {g : Nat → Nat} {c : Nat} (h : ∀ i, g i ≤ c) : ∀ k, sumK g k ≤ c * k
 | 0 => Nat.le_refl _
 | k + 1 => by
  have := sumK_le h k
  have := h k
  simp only [sumK]
  rw [Nat.mul_succ]; omega
theorem nb_le (x : Ino) : nb x ≤ 4 := by
 have one : ∀ z : Int, (if z = 0 then 0 else 1 : Nat) ≤ 1 := fun z => by split <;> omega
 have h0 := one x.b0
 have h1 := one x.b1
 have h2 := one x.b2
 have h3 := one x.b3
 unfold nb; omega
theorem mu_le (f : Int → List UInt8) : mu f ≤ 88 := by
 unfold mu
 have h1 := sumK_le (g := fun k => if f (17 + ((k : Nat) : Int)) = zeroS then 0 else 1) (c := 1) (fun i => by show (if _ then _ else _) ≤ 1; split <;> omega) 24
 have h2 := sumK_le (g := fun n => nb (inoAt f ((n : Nat) : Int))) (c := 4) (fun i => nb_le _) 16
 omega
end Go.Proofs.YtmfokpfddponjaaGreatDoor
namespace Go.Proofs.YtmfokpfddponjaaGreatDoor
open Go.Sy
def dObs (d : Dk) : List (Nat × Ob) := [(0, .cells 6 [.d (.ot (.map none)), .d (.it .i64 d.nx), .d (.fs 32 (d.safe.map encS)), .ts 36 (d.wait.map encW) 1, .ts 38 d.log 2, .d (.it .i64 d.ep)]), (1, .tail 58 true), (2, .tail 106 true)]
theorem dk_eq {a b c e s : List (List D)} {x y p : Int} (h3 : x = y) (h1 : a = b) (h2 : c = e) : Ob.cells 6 [.d (.ot (.map none)), .d (.it .i64 x), .d (.fs 32 s), .ts 36 a 1, .ts 38 c 2, .d (.it .i64 p)] = Ob.cells 6 [.d (.ot (.map none)), .d (.it .i64 y), .d (.fs 32 s), .ts 36 b 1, .ts 38 e 2, .d (.it .i64 p)] := by rw [h1, h2, h3]
set_option maxHeartbeats 8000000 in
theorem writeH_ok (d : Dk) (a : Int) (s : List UInt8) (hs : s.length = 32) (k i : Int) (hn : 0 ≤ d.nx ∧ d.nx ≤ 1000000) (hw : d.wait.length ≤ 1000000) (hlg : d.log.length ≤ 1000000) (ha : 0 ≤ a ∧ a < d.safe.length) :
  FnH Tryz.prog 18 [.ptr 0 0, .d (.it .i64 a), .dg 32 (encS s), .dg 2 [.it .i64 k, .it .i64 i]] (dObs d) 3 [0] (.d (.it .i64 0)) (dObs (wrD d ⟨a, s, k, i, 0⟩)) 3 := by
 obtain ⟨g, rfl⟩ := is32 hs
 have hl1 : (d.safe.map encS).length = d.safe.length := List.length_map ..
 have hl2 : (d.wait.map encW).length = d.wait.length := List.length_map ..
 have hne : (d.safe.map encS).isEmpty = false := by
  cases h : d.safe with
  | nil => rw [h] at ha; simp at ha; omega
  | cons => rfl
 refine FnH.intro ti_ok Tryz.func18 rfl Tryz.ntmps18 Tryz.call18 rfl rfl rfl (Nat.le_refl _) rfl rfl rfl rfl rfl (fun T => ?_)
 (repeat' ((conv=>whnf);first|with_reducible refine gA ?_|with_reducible refine nilBad ?_ | with_reducible refine AtA.mk' ?_ | ((with_reducible refine callE_id ?_); refine CallE.inl ?_) | ((with_reducible refine callI_id ?_); first | with_reducible refine CallI.inl ti_ok i39 rfl ?_ | with_reducible refine CallI.inl ti_ok i41 rfl ?_ | with_reducible refine CallI.inl ti_ok i40 rfl ?_ | with_reducible refine CallI.inl ti_ok i42 rfl ?_) | ((with_reducible refine drawS_id ?_); first | refine draw_newB ti_ok mixed (by decide +kernel) ?_ | refine draw_hoist ti_ok mixed 0 (by decide +kernel) ?_)|(with_reducible first|refine gB ?_|refine gZ (fun x hx hu=>?_)|refine gY (fun x hx=>?_)|refine gE ?_|refine Both.mk ?_ ?_|refine gS (fun h=>?_) (fun h=>?_)|refine Spl.nt ?_|refine Spl.mk (fun h=>?_) (fun h=>?_))))
 all_goals first | (exfalso; omega) | skip
 refine finH_now rfl (And.intro (dk_eq rfl ?_ rfl) (And.intro rfl (And.intro rfl trivial))) (And.intro rfl (And.intro rfl trivial))
 show _ = (d.wait ++ [_]).map encW
 rw [List.map_append]; rfl
end Go.Proofs.YtmfokpfddponjaaGreatDoor
namespace Go.Proofs.YtmfokpfddponjaaGreatDoor
open Go.Sy
def nextV (o : Option Wr) : AV := match o with
 | none => .tup [.dg 36 (encW w0), .d (.bl false)]
 | some w => .tup [.dg 36 (encW w), .d (.bl true)]
theorem it_len (d : Dk) : ∀ j, (itD d j).wait.length ≤ d.wait.length + j ∧ (itD d j).log.length ≤ d.log.length + j ∧ d.nx ≤ (itD d j).nx ∧ (itD d j).nx ≤ d.nx + (j : Nat)
 | 0 => by show d.wait.length ≤ _ ∧ d.log.length ≤ _ ∧ d.nx ≤ d.nx ∧ d.nx ≤ d.nx + ((0 : Nat) : Int); omega
 | j + 1 => by
  have h := it_len d j
  show (stepD (itD d j)).wait.length ≤ _ ∧ (stepD (itD d j)).log.length ≤ _ ∧ d.nx ≤ (stepD (itD d j)).nx ∧ (stepD (itD d j)).nx ≤ _
  unfold stepD
  cases nextW (some (itD d j)) with
  | none => dsimp only; omega
  | some w =>
   show ((itD d j).wait ++ [_]).length ≤ _ ∧ ((itD d j).log ++ [_]).length ≤ _ ∧ d.nx ≤ (itD d j).nx + 1 ∧ (itD d j).nx + 1 ≤ _
   rw [List.length_append, List.length_append, List.length_singleton, List.length_singleton]
   omega
def mdA (F : Func) (T0 : Nat) (D : Dk) (j : Nat) : S := ⟨[(0, .yld 12), (1, .ptr 10 0)], [(12, rgL 11 F), (11, .frame 29 [(1, .ptr 5 0), (2, .ptr 6 0), (3, .ptr 7 0), (4, .ptr 8 0)]), (10, .cells 1 [.ptr 0 0]), (8, .cells 1 [.d (.it .i64 (j : Nat))]), (7, .cells 1 [.d (.it .i64 0)]), (6, .cells 1 [.d (.it .i64 0)]), (5, .cells 1 [.ptr 0 0]),
 (0, .cells 6 [.d (.ot (.map none)), .d (.it .i64 D.nx), .d (.fs 32 (D.safe.map encS)), .ts 36 (D.wait.map encW) 1, .ts 38 D.log 2, .d (.it .i64 D.ep)]), (1, .tail 58 true), (2, .tail 106 true), (3, .frame 4 [(0, .ptr 0 0)]), (4, .tag 0 T0)], 13⟩
theorem dkOK_of {d : Dk} (h : Mnt d) (hl : d.wait.length ≤ 100000) : DkOK (some d) := ⟨h.s, h.w, by rw [h.n]; exact Nat.le_refl _, hl⟩
def nwD (d : Dk) (j : Nat) : Wr := (nextW (some (itD d j))).getD w0
theorem sec_eq {s : List UInt8} (h : s.length = 32) : s = sec32 fun q => s.getD q 0 := by
 refine List.ext_getElem (by rw [h]; rfl) fun i h1 h2 => ?_
 have h3 : sec32 (fun i => s.getD i 0) = (List.range 32).map (fun i => s.getD i 0) := rfl
 simp only [h3, List.getElem_map, List.getElem_range]
 rw [List.getD_eq_getElem?_getD, List.getElem?_eq_getElem h1]; rfl
theorem next_at {d : Dk} (h : Mnt d) {i j : Nat} (hlt : j < i) (hj : ∀ j, j < i → nextW (some (itD d j)) ≠ none) (hnext : ∀ d : Dk, DkOK (some d) → FnC Tryz.prog 17 [.d (.fp 6 (encDk d))] (nextV (nextW (some d)))) (hl : (itD d j).wait.length ≤ 100000) :
  FnC Tryz.prog 17 [.d (.fp 6 (encDk (itD d j)))] (.tup [.dg 36 (encW ⟨(nwD d j).a, sec32 fun q => (nwD d j).s.getD q 0, (nwD d j).k, (nwD d j).i, (nwD d j).e⟩), .d (.bl true)]) ∧ (0 ≤ (nwD d j).a ∧ (nwD d j).a < (itD d j).safe.length) ∧ wrD (itD d j) ⟨(nwD d j).a, sec32 fun q => (nwD d j).s.getD q 0, (nwD d j).k, (nwD d j).i, 0⟩ = itD d (j + 1) := by
 have hM := it_mnt h j
 have hN := hnext _ (dkOK_of hM hl)
 have hne := hj j hlt
 have hst : itD d (j + 1) = stepD (itD d j) := rfl
 unfold stepD at hst
 unfold nwD
 cases hw : nextW (some (itD d j)) with
 | none => exact absurd hw hne
 | some w =>
  rw [hw] at hN hst
  obtain ⟨_, _, h1, h2, h3⟩ := step_mnt hM hw
  have hs := sec_eq h3
  simp only [Option.getD_some]
  rw [← hs]
  exact ⟨hN, ⟨by omega, by rw [hM.n]; exact h2⟩, by rw [hst]; rfl⟩
set_option maxHeartbeats 16000000 in
theorem mendH_ok (hnext : ∀ d : Dk, DkOK (some d) → FnC Tryz.prog 17 [.d (.fp 6 (encDk d))] (nextV (nextW (some d)))) (hmnt : ∀ d : Dk, Mnt d → d.wait.length ≤ 100000 → FnC Tryz.prog 6 [.d (.fp 6 (encDk d))] (.d (.bl true))) (d : Dk) (h : Mnt d) (hb : d.wait.length ≤ 1000 ∧ d.log.length ≤ 1000 ∧ 0 ≤ d.nx ∧ d.nx ≤ 1000) (i : Nat) (h88 : i ≤ 88) (hi : nextW (some (itD d i)) = none) (hj : ∀ j, j < i → nextW (some (itD d j)) ≠ none) :
  FnH Tryz.prog 9 [.ptr 0 0] (dObs d) 3 [0] (.tup [.d (.it .i64 (i : Nat)), .d (.it .i64 0)]) (dObs (itD d i)) 3 := by
 have hm := hmnt d h (by omega)
 refine FnH.intro ti_ok Tryz.func9 rfl Tryz.ntmps9 Tryz.call9 rfl rfl rfl (Nat.le_refl _) rfl rfl rfl rfl rfl (fun T => ?_)
 (repeat' ((conv=>whnf);first|with_reducible refine gA ?_|((with_reducible refine callE_id ?_); refine CallE.inl ?_) | ((with_reducible refine callI_id ?_); first | with_reducible refine CallI.inl ti_ok i23 rfl ?_ | refine CallI.byR (CallR.mk ⟨[.d (.fp 6 (encDk d))], _, And.intro ⟨6, _, by with_unfolding_all exact rfl, Nat.le_refl _, rfl, rfl⟩ trivial, hm, rfl, ?_⟩))|(with_reducible first|refine gB ?_|refine gZ (fun x hx hu=>?_)|refine gY (fun x hx=>?_)|refine gE ?_|refine Both.mk ?_ ?_|refine gS (fun h=>?_) (fun h=>?_)|refine Spl.nt ?_|refine Spl.mk (fun h=>?_) (fun h=>?_))))
 refine RangeS.intro ti_ok i45 rfl rfl ?_
 (repeat' ((conv=>whnf);first|with_reducible refine gA ?_|(with_reducible first|refine gB ?_|refine gZ (fun x hx hu=>?_)|refine gY (fun x hx=>?_)|refine gE ?_|refine Both.mk ?_ ?_|refine gS (fun h=>?_) (fun h=>?_)|refine Spl.nt ?_|refine Spl.mk (fun h=>?_) (fun h=>?_))))
 conv => whnf
 refine LoopS.wk (τ := mdA Tryz.f9 (T 0) d 0) (Wk.enF (And.intro rfl (And.intro rfl trivial)) (by (repeat (first | exact trivial | refine And.intro (obw_eq rfl (by with_unfolding_all exact rfl)) ?_ | refine And.intro (obw_fr (by with_unfolding_all exact rfl) (by (repeat (first | exact trivial | refine And.intro (by with_unfolding_all exact rfl) ?_)))) ?_))) rfl) ?_
 refine loop_ruleW ti_ok (fun j : Nat => j ≤ i) (fun j => mdA Tryz.f9 (T 0) (itD d j) j) (fun j => i - j) 0 (Nat.zero_le _) (Wk.en ⟨And.intro rfl (And.intro rfl trivial), (by (repeat (first | exact trivial | refine And.intro rfl ?_))), rfl⟩) ?_
 intro j hji
 have hM := it_mnt h j
 have hlen := it_len d j
 by_cases hlt : j < i
 ·have hr := next_at h hlt hj hnext (by omega)
  have hN := hr.1
  have hD := hr.2.2
  have hW := writeH_ok (itD d j) (nwD d j).a (sec32 fun q => (nwD d j).s.getD q 0) rfl (nwD d j).k (nwD d j).i ⟨by omega, by omega⟩ (by omega) (by omega) hr.2.1
  rw [hD] at hW
  (repeat' ((conv=>whnf);first|with_reducible refine gA ?_|with_reducible refine AtA.mk' ?_ | ((with_reducible refine callI_id ?_); first | refine CallI.byR (CallR.mk ⟨[.d (.fp 6 (encDk (itD d j)))], _, And.intro ⟨6, _, by with_unfolding_all exact rfl, Nat.le_refl _, rfl, rfl⟩ trivial, hN, by with_unfolding_all exact rfl, ?_⟩) | refine CallI.byH hW [0, 1, 2] (by with_unfolding_all exact rfl) ⟨rfl, by decide, by with_unfolding_all exact rfl⟩ (And.intro rfl (And.intro rfl (And.intro rfl trivial))) rfl rfl ?_) | with_reducible refine YieldI.intro ti_ok (by with_unfolding_all exact rfl) (by with_unfolding_all exact rfl) (by with_unfolding_all exact rfl) ?_|(with_reducible first|refine gB ?_|refine gZ (fun x hx hu=>?_)|refine gY (fun x hx=>?_)|refine gE ?_|refine Both.mk ?_ ?_|refine gS (fun h=>?_) (fun h=>?_)|refine Spl.nt ?_|refine Spl.mk (fun h=>?_) (fun h=>?_))))
  refine ⟨j + 1, hlt, by first | omega | (dsimp only; omega), Wk.enF (And.intro rfl (And.intro rfl trivial)) (by (repeat (first | exact trivial | refine And.intro (obw_eq rfl (by with_unfolding_all exact rfl)) ?_ | refine And.intro (obw_fr (by with_unfolding_all exact rfl) (by (repeat (first | exact trivial | refine And.intro (by with_unfolding_all exact rfl) ?_)))) ?_))) rfl⟩
 ·have hje : j = i := by omega
  have hN := hnext (itD d j) (dkOK_of hM (by omega))
  rw [hje, hi] at hN
  subst hje
  (repeat' ((conv=>whnf);first|with_reducible refine gA ?_|((with_reducible refine callI_id ?_); refine CallI.byR (CallR.mk ⟨[.d (.fp 6 (encDk (itD d j)))], _, And.intro ⟨6, _, by with_unfolding_all exact rfl, Nat.le_refl _, rfl, rfl⟩ trivial, hN, rfl, ?_⟩))|(with_reducible first|refine gB ?_|refine gZ (fun x hx hu=>?_)|refine gY (fun x hx=>?_)|refine gE ?_|refine Both.mk ?_ ?_|refine gS (fun h=>?_) (fun h=>?_)|refine Spl.nt ?_|refine Spl.mk (fun h=>?_) (fun h=>?_))))
  exact finH_now rfl (And.intro rfl (And.intro rfl (And.intro rfl trivial))) (And.intro rfl (And.intro rfl trivial))
end Go.Proofs.YtmfokpfddponjaaGreatDoor
namespace Go.Proofs.YtmfokpfddponjaaGreatDoor
open Go.Sy
def dObsN (a b c : Nat) (d : Dk) : List (Nat × Ob) := [(a, .cells 6 [.d (.ot (.map none)), .d (.it .i64 d.nx), .d (.fs 32 (d.safe.map encS)), .ts 36 (d.wait.map encW) b, .ts 38 d.log c, .d (.it .i64 d.ep)]), (b, .tail 58 true), (c, .tail 106 true)]
def dskD (m : List (List UInt8)) (ws : List Wr) : Dk := ⟨ws.length, m, wts m.length ws, (wts m.length ws).map encEv, 0⟩
def dA2 (m : List (List UInt8)) (ws : List Wr) (i : Nat) : S := ⟨[(0, .d (encM m)), (1, .d (.fs 36 (ws.map encW))), (5, .ptr 8 0), (7, .d (.it .i64 (i : Nat)))],
 [(8, .cells 6 [.d (.ot (.map none)), .d (.it .i64 (i : Nat)), .d (.fs 32 (m.map encS)), .ts 36 ((wtsI m ws i).map encW) 9, .ts 38 ((wtsI m ws i).map encEv) 10, .d (.it .i64 0)]), (9, .tail 58 true), (10, .tail 106 true), (0, .frame 1 [])], 11⟩
theorem dkN_eq {q r : Nat} {a b c e s : List (List D)} {x y z : Int} (h3 : x = y) (h1 : a = b) (h2 : c = e) : Ob.cells 6 [.d (.ot (.map none)), .d (.it .i64 x), .d (.fs 32 s), .ts 36 a q, .ts 38 c r, .d (.it .i64 z)] = Ob.cells 6 [.d (.ot (.map none)), .d (.it .i64 y), .d (.fs 32 s), .ts 36 b q, .ts 38 e r, .d (.it .i64 z)] := by rw [h1, h2, h3]
set_option maxHeartbeats 8000000 in
theorem diskH_ok (m : List (List UInt8)) (hm : ImOK m) (ws : List Wr) (hw : WsOK ws) (hwl : ws.length ≤ 1000) (h : 1 ≤ m.length ∧ m.length ≤ 65) : FnH Tryz.prog 5 [.d (encM m), .d (.fs 36 (ws.map encW))] [] 0 [] (.ptr 8 0) (dObsN 8 9 10 (dskD m ws)) 11 := by
 have hml' : (m.map encS).length = m.length := List.length_map ..
 have hwl' : (ws.map encW).length = ws.length := List.length_map ..
 have hne : (m.map encS).isEmpty = false := by
  cases m with
  | nil => simp at h
  | cons => rfl
 refine FnH.intro ti_ok Tryz.func5 rfl Tryz.ntmps5 Tryz.call5 rfl rfl rfl (Nat.zero_le _) rfl rfl rfl rfl rfl (fun T => ?_)
 (repeat' ((conv=>whnf);first|with_reducible refine gA ?_|((with_reducible refine callE_id ?_); refine CallE.inl ?_) | with_reducible refine CallI.inl ti_ok i7 rfl ?_ | with_reducible refine CallI.inl ti_ok i21 rfl ?_ | with_reducible refine CallI.inl ti_ok i22 rfl ?_ | with_reducible refine Spl.no hne ?_|(with_reducible first|refine gB ?_|refine gZ (fun x hx hu=>?_)|refine gY (fun x hx=>?_)|refine gE ?_|refine Both.mk ?_ ?_|refine gS (fun h=>?_) (fun h=>?_)|refine Spl.nt ?_|refine Spl.mk (fun h=>?_) (fun h=>?_))))
 refine loop_ruleW ti_ok (fun i : Nat => i ≤ ws.length) (dA2 m ws) (fun i => ws.length - i) 0 (Nat.zero_le _) ?_ ?_
 ·refine Wk.trans (Wk.nlTs 8 3 6 36 58 (by with_unfolding_all exact rfl) (by with_unfolding_all exact rfl)) ?_
  refine Wk.trans (Wk.nlTs 8 4 6 38 106 (by with_unfolding_all exact rfl) (by with_unfolding_all exact rfl)) ?_
  exact Wk.vwL (And.intro (Vw.eq rfl) (And.intro (Vw.eq rfl) (And.intro (Vw.eq rfl) (And.intro (Vw.eq rfl) trivial))))
    (And.intro (VwO.cells _ _ _ (.cons (Vw.eq rfl) rfl (.cons (Vw.eq rfl) rfl (.cons (Vw.ts' rfl) rfl (.cons (Vw.eq rfl) rfl (.cons (Vw.eq rfl) rfl (.cons (Vw.eq rfl) rfl .nil))))))) (And.intro (VwO.same _) (And.intro (VwO.same _) (And.intro (VwO.same _) trivial)))) rfl
 intro i hi
 rcases Nat.lt_or_ge i ws.length with hil | hil
 ·obtain ⟨x, hx⟩ := lt_get hil
  have hxs := hw x (List.mem_of_getElem? hx)
  have hpos : m.length ≠ 0 := by omega
  have hwi : ((wtsI m ws i).map encW).length ≤ 1000 := by
   rw [List.length_map]
   exact Nat.le_trans (wtsI_len m ws i) hwl
  have hwe : ((wtsI m ws i).map encEv).length ≤ 1000 := by
   rw [List.length_map]
   exact Nat.le_trans (wtsI_len m ws i) hwl
  have hwj : (wtsI m ws i).length ≤ 1000 := Nat.le_trans (wtsI_len m ws i) hwl
  have hstep := wtsI_step m hx
  obtain ⟨xa, xs, xk, xi, xe⟩ := x
  obtain ⟨g, rfl⟩ := is32 hxs
  (repeat' ((conv=>whnf);first|with_reducible refine gA ?_|with_reducible refine at_hm hx ?_ | with_reducible refine nilBad ?_ | with_reducible refine AtA.mk' ?_ | ((with_reducible refine callE_id ?_); refine CallE.inl ?_) | ((with_reducible refine callI_id ?_); first | with_reducible refine CallI.inl ti_ok i18 rfl ?_ | with_reducible refine CallI.inl ti_ok i39 rfl ?_ | with_reducible refine CallI.inl ti_ok i41 rfl ?_ | with_reducible refine CallI.inl ti_ok i40 rfl ?_ | with_reducible refine CallI.inl ti_ok i42 rfl ?_) | ((with_reducible refine drawS_id ?_); first | refine draw_newB ti_ok mixed (by decide +kernel) ?_ | refine draw_hoist ti_ok mixed 0 (by decide +kernel) ?_)|(with_reducible first|refine gB ?_|refine gZ (fun x hx hu=>?_)|refine gY (fun x hx=>?_)|refine gE ?_|refine Both.mk ?_ ?_|refine gS (fun h=>?_) (fun h=>?_)|refine Spl.nt ?_|refine Spl.mk (fun h=>?_) (fun h=>?_))))
  all_goals refine ⟨i + 1, by omega, by dsimp only; omega, Wk.vwL (And.intro (Vw.eq rfl) (And.intro (Vw.eq rfl) (And.intro (Vw.eq rfl) (And.intro (Vw.eq (it_eq (by omega))) trivial)))) (And.intro (VwO.cells _ _ _ (.cons (Vw.eq rfl) rfl (.cons (Vw.eq (it_eq (by omega))) rfl (.cons (Vw.eq rfl) rfl (.cons (Vw.eq (ts_eq ?_)) rfl (.cons (Vw.eq (ts_eq ?_)) rfl (.cons (Vw.eq rfl) rfl .nil))))))) (And.intro (VwO.same _) (And.intro (VwO.same _) (And.intro (VwO.same _) trivial)))) rfl⟩
  all_goals first
   | (rw [hstep, if_pos (by dsimp only at *; omega), List.map_append]; rfl)
   | (rw [hstep, if_neg (by dsimp only at *; omega)])
 ·have hli : i = ws.length := by omega
  have hlast : wtsI m ws i = wts m.length ws := by unfold wtsI; rw [hli, List.take_length]
  (repeat' ((conv=>whnf);first|with_reducible refine gA ?_|(with_reducible first|refine gB ?_|refine gZ (fun x hx hu=>?_)|refine gY (fun x hx=>?_)|refine gE ?_|refine Both.mk ?_ ?_|refine gS (fun h=>?_) (fun h=>?_)|refine Spl.nt ?_|refine Spl.mk (fun h=>?_) (fun h=>?_))))
  refine finH_now rfl (And.intro (dkN_eq (by rw [hli]; rfl) (by rw [hlast]; rfl) (by rw [hlast]; rfl)) (And.intro rfl (And.intro rfl trivial))) (And.intro rfl trivial)
end Go.Proofs.YtmfokpfddponjaaGreatDoor
namespace Go.Proofs.YtmfokpfddponjaaGreatDoor
open Go.Sy
theorem img_len (d : Dk) : (imgD (some d)).length = d.safe.length := by
 show ((List.range d.safe.length).map _).length = _
 rw [List.length_map, List.length_range]
theorem imS_img (d : Dk) (n : Nat) (h : n < d.safe.length) : imS (imgD (some d)) (n : Nat) = rdS (some d) (n : Nat) := by
 have h1 : (imgD (some d))[n]? = some (rdS (some d) (n : Nat)) := by
  show ((List.range d.safe.length).map fun k : Nat => rdS (some d) (k : Nat))[n]? = _
  rw [List.getElem?_map, List.getElem?_range h]; rfl
 unfold imS
 rw [List.getD_eq_getElem?_getD, show ((n : Nat) : Int).toNat = n from rfl, h1]; rfl
theorem mnt_to {d : Dk} (h : Mnt d) : mntP (imgD (some d)) := by
 have h0 := imS_img d 0 (by rw [h.n]; decide)
 have h1 := imS_img d 1 (by rw [h.n]; decide)
 refine ⟨by rw [img_len]; exact h.n, ?_, ?_, ?_⟩
 ·exact h0.trans h.f0
 ·rw [show imS (imgD (some d)) 1 = _ from h1]; exact h.f1
 ·rw [show imS (imgD (some d)) 1 = _ from h1]; exact h.f2
theorem mnt_of {d : Dk} (hd : DkOK (some d)) (h : mntP (imgD (some d))) : Mnt d := by
 have hn : d.safe.length = 65 := by rw [← img_len]; exact h.1
 have h0 := imS_img d 0 (by rw [hn]; decide)
 have h1 := imS_img d 1 (by rw [hn]; decide)
 refine ⟨hd.1, hd.2.1, hn, h0.symm.trans h.2.1, ?_, ?_⟩
 ·have := h.2.2.1
  rw [show imS (imgD (some d)) 1 = _ from h1] at this; exact this
 ·have := h.2.2.2
  rw [show imS (imgD (some d)) 1 = _ from h1] at this; exact this
theorem mntd_ok (d : Dk) (hd : DkOK (some d)) : FnC Tryz.prog 6 [.d (.fp 6 (encDk d))] (.d (.bl (decide (mntP (imgD (some d)))))) := mounted_ok (some d) hd
theorem mend_nil : FnC Tryz.prog 9 [.d (.ot (.pointer none))] (.tup [.d (.it .i64 0), .d (.it .i64 8)]) := by
 have hm : FnC Tryz.prog 6 [.d (.ot (.pointer none))] (.d (.bl (decide (mntP (imgD none))))) := mounted_ok none trivial
 rw [decide_eq_false (by intro h; exact absurd h.1 (by decide))] at hm
 refine FnC.intro ti_ok Tryz.func9 rfl Tryz.ntmps9 Tryz.call9 rfl (Nat.le_of_ble_eq_true rfl) rfl ?_
 (repeat' ((conv=>whnf);first|with_reducible refine gA ?_|((with_reducible refine callE_id ?_); (refine CallE.con ⟨_, hm, ?_⟩))|(with_reducible first|refine gB ?_|refine gZ (fun x hx hu=>?_)|refine gY (fun x hx=>?_)|refine gE ?_|refine Both.mk ?_ ?_|refine gS (fun h=>?_) (fun h=>?_)|refine Spl.nt ?_|refine Spl.mk (fun h=>?_) (fun h=>?_))))
 rfl
theorem nextW_none {d : Option Dk} : nextW d = none ↔ probsD d = [] := by
 unfold nextW
 cases probsD d with
 | nil => exact ⟨fun _ => rfl, fun _ => rfl⟩
 | cons p t => exact ⟨(fun h => by cases h), (fun h => by cases h)⟩
end Go.Proofs.YtmfokpfddponjaaGreatDoor
namespace Go.Proofs.YtmfokpfddponjaaGreatDoor
open Go.Sy
set_option maxHeartbeats 4000000 in
theorem mentry_ok (d : Option Dk) (hd : DkOK d) (k : Nat) (hk : k < 24) : FnC Tryz.prog 38 [.d (encD d), .d (.it .i64 (k : Nat))] (.dg 36 (encW (entW (rdS d) k))) := by
 have he := entry_ok d hd (k : Nat)
 rw [encE] at he
 refine FnC.intro ti_ok Tryz.func38 rfl Tryz.ntmps38 Tryz.call38 rfl (Nat.le_of_ble_eq_true rfl) rfl ?_
 (repeat' ((conv=>whnf);first|with_reducible refine gA ?_|((with_reducible refine callE_id ?_); (refine CallE.con ⟨_, he, ?_⟩))|(with_reducible first|refine gB ?_|refine gZ (fun x hx hu=>?_)|refine gY (fun x hx=>?_)|refine gE ?_|refine Both.mk ?_ ?_|refine gS (fun h=>?_) (fun h=>?_)|refine Spl.nt ?_|refine Spl.mk (fun h=>?_) (fun h=>?_))))
 rfl
def ctS (d : Option Dk) (b : Int) (k : Nat) (w : Wr) : S := ⟨[(0, .d (encD d)), (1, .d (.it .i64 b)), (4, .ptr 0 0), (5, .ptr 2 0), (9, .d (.it .i64 (k : Nat)))], [(0, .cells 36 ((encW w0).map .d)), (2, .cells 36 ((encW w).map .d))], 4⟩
theorem ctS_ok (d : Option Dk) (b : Int) (k : Nat) (w : Wr) : (ctS d b k w).ok = true := by
 unfold ctS
 simp only [S.ok, List.all_cons, List.all_nil, Ob.lt, all_d]; rfl
theorem cutV {x : Ino} (h : RI x) : inoR x = .tup [.dg 32 (encS (inoS x)), .d (.bl true)] := by
 unfold inoR
 rw [if_pos h, encL_S (RI_byte h)]; rfl
theorem cutW1_s {n : Nat} {x : Ino} (h : RI x) : encW (cutW1 n x) = [.it .i64 (1 + (n : Nat))] ++ encS (inoS x) ++ [.it .i64 2, .it .i64 (n : Nat), .it .i64 0] := by
 unfold cutW1 encW
 dsimp only
 rw [if_pos h]
theorem cutS_n {o : Option Nat} {t : Bool} {n : Nat} {x : Ino} {r : Wr} (h : t = false ∨ o = none) : cutS o t n x r = r := by
 rcases h with rfl | rfl
 ·cases o <;> rfl
 ·rfl
theorem st36 {a l : List AV} (h : a.length ≤ 36) : l = a.take 0 ++ l ++ a.drop (0 + 36) := by rw [List.drop_eq_nil_of_le (by omega)]; simp
theorem posB_none {x : Ino} {b : Int} (h0 : ¬ x.b0 = b) (h1 : ¬ x.b1 = b) (h2 : ¬ x.b2 = b) (h3 : ¬ x.b3 = b) : posB x b = none := by
 unfold posB
 rw [if_neg h0, if_neg h1, if_neg h2, if_neg h3]
theorem cutW1_l (n : Nat) (x : Ino) : (cutW1 n x).s.length = 32 := by
 show (if RI x then inoS x else zeroS).length = 32
 split <;> rfl
theorem cutK_s (f : Int → List UInt8) (b : Int) : ∀ k, (cutK f b k).s.length = 32
 | 0 => rfl
 | k + 1 => by
  rw [cutK_succ]
  cases posB (inoAt f (k : Nat)) b with
  | none => exact cutK_s f b k
  | some i =>
   cases decide (takP f (k : Nat)) with
   | false => exact cutK_s f b k
   | true => exact cutW1_l _ _
theorem ldW36 {w : Wr} (h : w.s.length = 32) {ty : Ty} (ha : ty.kd.agg = true) (hz : ty.size = 36) : ldA ty 0 ((encW w).map AV.d) = .dg 36 (encW w) := by
 unfold ldA
 rw [ha, cond_true, hz, List.drop_zero, List.take_of_length_le (by rw [List.length_map, encW_len h]; exact Nat.le_refl _)]
 unfold mkAg
 rw [allD_map]
theorem ldW36b {w : Wr} (h : w.s.length = 32) {a : List AV} (hx : a = (encW w).map AV.d) {ty : Ty} (ha : ty.kd.agg = true) (hz : ty.size = 36) : ldA ty 0 a = .dg 36 (encW w) := by rw [hx]; exact ldW36 h ha hz
theorem ctW {f : Int → List UInt8} {b : Int} {k : Nat} {x : Ino} {i : Nat} {r : Wr} (hR : RI (cutI x i)) (hp : posB x b = some i) (h : cutK f b (k + 1) = cutS (posB x b) true k x r) : (encW (cutK f b (k + 1))).map AV.d = [AV.d (.it .i64 (1 + (k : Nat)))] ++ (encS (inoS (cutI x i))).map AV.d ++ [.d (.it .i64 2), .d (.it .i64 (k : Nat)), .d (.it .i64 0)] := by
 rw [h, hp]
 show (encW (cutW1 k (cutI x i))).map AV.d = _
 rw [cutW1_s hR, List.map_append, List.map_append]; rfl
theorem ctI {x : Ino} (h : RI x) {b : Int} (hb : 1 ≤ b) {i : Nat} (hp : posB x b = some i) : FnC Tryz.prog 57 [.dg 6 (encI (cutI x i))] (.tup [.dg 32 (encS (inoS (cutI x i))), .d (.bl true)]) ∧ RI (cutI x i) := by
 have hR := (cutI_RI h hb hp).1
 have := ino_ok (cutI x i)
 rw [cutV hR] at this
 exact ⟨this, hR⟩
set_option maxHeartbeats 16000000 in
theorem cut38_ok (d : Option Dk) (hd : DkOK d) (b : Int) (hb : 1 ≤ b ∧ b ≤ 24) : FnC Tryz.prog 37 [.d (encD d), .d (.it .i64 b)] (.dg 36 (encW (cutK (rdS d) b 16))) := by
 have hi := fun n => inode_ok d hd n
 have ht := fun n => taken_ok d hd n
 refine FnC.intro ti_ok Tryz.func37 rfl Tryz.ntmps37 Tryz.call37 rfl (Nat.le_of_ble_eq_true rfl) rfl ?_
 (repeat' ((conv=>whnf);first|with_reducible refine gA ?_|(with_reducible first|refine gB ?_|refine gZ (fun x hx hu=>?_)|refine gY (fun x hx=>?_)|refine gE ?_|refine Both.mk ?_ ?_|refine gS (fun h=>?_) (fun h=>?_)|refine Spl.nt ?_|refine Spl.mk (fun h=>?_) (fun h=>?_))))
 conv => whnf
 refine loop_rule ti_ok (fun k : Nat => k ≤ 16) (fun k => ctS d b k (cutK (rdS d) b k)) (fun k => 16 - k) 0 (Nat.zero_le _) ⟨And.intro rfl (And.intro rfl (And.intro rfl (And.intro rfl (And.intro rfl trivial)))), And.intro rfl (And.intro rfl trivial), ctS_ok ..⟩ ?_
 intro k hk
 by_cases hk16 : k < 16
 ·have hik := hi (k : Nat)
  have htk := ht (k : Nat)
  have hRI := inoAt_RI (rdS d) (k : Nat)
  have hsc := cutK_succ (rdS d) b k
  have hl0 : ((encW (cutK (rdS d) b k)).map AV.d).length ≤ 36 := by rw [List.length_map, encW_len (cutK_s (rdS d) b k)]; exact Nat.le_refl _
  generalize inoAt (rdS d) (k : Nat) = x at hik hRI hsc
  have hx6 : encI x = [.it .i64 x.k, .it .i64 x.z, .it .i64 x.b0, .it .i64 x.b1, .it .i64 x.b2, .it .i64 x.b3] := rfl
  rw [hx6] at hik
  have c0 := fun (h : x.b0 = b) => ctI hRI hb.1 (i := 0) (show posB x b = some 0 from if_pos h)
  have c1 := fun (h0 : ¬ x.b0 = b) (h : x.b1 = b) => ctI hRI hb.1 (i := 1) (show posB x b = some 1 from (if_neg h0).trans (if_pos h))
  have c2 := fun (h0 : ¬ x.b0 = b) (h1 : ¬ x.b1 = b) (h : x.b2 = b) => ctI hRI hb.1 (i := 2) (show posB x b = some 2 from (if_neg h0).trans ((if_neg h1).trans (if_pos h)))
  have c3 := fun (h0 : ¬ x.b0 = b) (h1 : ¬ x.b1 = b) (h2 : ¬ x.b2 = b) (h : x.b3 = b) => ctI hRI hb.1 (i := 3) (show posB x b = some 3 from (if_neg h0).trans ((if_neg h1).trans ((if_neg h2).trans (if_pos h))))
  by_cases hT : takP (rdS d) (k : Nat)
  all_goals first | rw [decide_eq_true hT] at htk hsc | rw [decide_eq_false hT] at htk hsc
  all_goals (repeat' ((conv=>whnf);first|with_reducible refine gA ?_|((with_reducible refine callE_id ?_); first | (refine CallE.con ⟨_, hik, ?_⟩) | (refine CallE.con ⟨_, htk, ?_⟩) | (refine CallE.con ⟨_, (c0 (by omega)).1, ?_⟩) | (refine CallE.con ⟨_, (c1 (by omega) (by omega)).1, ?_⟩) | (refine CallE.con ⟨_, (c2 (by omega) (by omega) (by omega)).1, ?_⟩) | (refine CallE.con ⟨_, (c3 (by omega) (by omega) (by omega) (by omega)).1, ?_⟩) | refine CallE.inl ?_) | ((with_reducible refine callI_id ?_); with_reducible refine CallI.inl ti_ok i64 rfl ?_) | with_reducible refine LoopS.unroll ti_ok 5 ?_ | ((with_reducible refine letC_id ?_); refine LetC.mk _ (st36 hl0) ?_) | ((with_reducible refine opX_id ?_); refine OpX.clearM ti_ok rfl rfl rfl (by with_unfolding_all exact rfl) rfl (by with_unfolding_all exact rfl) rfl rfl (by with_unfolding_all exact rfl) (by with_unfolding_all exact rfl) (by decide) (fun _ => by decide) ?_)|(with_reducible first|refine gB ?_|refine gZ (fun x hx hu=>?_)|refine gY (fun x hx=>?_)|refine gE ?_|refine Both.mk ?_ ?_|refine gS (fun h=>?_) (fun h=>?_)|refine Spl.nt ?_|refine Spl.mk (fun h=>?_) (fun h=>?_))))
  all_goals first
   | (refine again (k + 1) hk16 (by first | omega | (dsimp only; omega)) (And.intro rfl (And.intro rfl (And.intro rfl (And.intro rfl (And.intro (it_eq (by omega)) trivial))))) (And.intro rfl (And.intro (cells_eq rfl (by rw [hsc, cutS_n (by first | exact .inl rfl | exact .inr (posB_none (by omega) (by omega) (by omega) (by omega)))])) trivial)) (ctS_ok ..); done)
   | (refine again (k + 1) hk16 (by first | omega | (dsimp only; omega)) (And.intro rfl (And.intro rfl (And.intro rfl (And.intro rfl (And.intro (it_eq (by omega)) trivial))))) (And.intro rfl (And.intro (cells_eq rfl ((by with_unfolding_all exact rfl : _ = [AV.d (.it .i64 (1 + (k : Nat)))] ++ (encS (inoS (cutI x 0))).map AV.d ++ [.d (.it .i64 2), .d (.it .i64 (k : Nat)), .d (.it .i64 0)]).trans (ctW (c0 (by omega)).2 (if_pos (by omega)) hsc).symm)) trivial)) (ctS_ok ..); done)
   | (refine again (k + 1) hk16 (by first | omega | (dsimp only; omega)) (And.intro rfl (And.intro rfl (And.intro rfl (And.intro rfl (And.intro (it_eq (by omega)) trivial))))) (And.intro rfl (And.intro (cells_eq rfl ((by with_unfolding_all exact rfl : _ = [AV.d (.it .i64 (1 + (k : Nat)))] ++ (encS (inoS (cutI x 1))).map AV.d ++ [.d (.it .i64 2), .d (.it .i64 (k : Nat)), .d (.it .i64 0)]).trans (ctW (c1 (by omega) (by omega)).2 ((if_neg (by omega)).trans (if_pos (by omega))) hsc).symm)) trivial)) (ctS_ok ..); done)
   | (refine again (k + 1) hk16 (by first | omega | (dsimp only; omega)) (And.intro rfl (And.intro rfl (And.intro rfl (And.intro rfl (And.intro (it_eq (by omega)) trivial))))) (And.intro rfl (And.intro (cells_eq rfl ((by with_unfolding_all exact rfl : _ = [AV.d (.it .i64 (1 + (k : Nat)))] ++ (encS (inoS (cutI x 2))).map AV.d ++ [.d (.it .i64 2), .d (.it .i64 (k : Nat)), .d (.it .i64 0)]).trans (ctW (c2 (by omega) (by omega) (by omega)).2 ((if_neg (by omega)).trans ((if_neg (by omega)).trans (if_pos (by omega)))) hsc).symm)) trivial)) (ctS_ok ..); done)
   | (refine again (k + 1) hk16 (by first | omega | (dsimp only; omega)) (And.intro rfl (And.intro rfl (And.intro rfl (And.intro rfl (And.intro (it_eq (by omega)) trivial))))) (And.intro rfl (And.intro (cells_eq rfl ((by with_unfolding_all exact rfl : _ = [AV.d (.it .i64 (1 + (k : Nat)))] ++ (encS (inoS (cutI x 3))).map AV.d ++ [.d (.it .i64 2), .d (.it .i64 (k : Nat)), .d (.it .i64 0)]).trans (ctW (c3 (by omega) (by omega) (by omega) (by omega)).2 ((if_neg (by omega)).trans ((if_neg (by omega)).trans ((if_neg (by omega)).trans (if_pos (by omega))))) hsc).symm)) trivial)) (ctS_ok ..); done)
 ·have h16 : k = 16 := by omega
  have hl := cutK_s (rdS d) b k
  (repeat' ((conv=>whnf);first|with_reducible refine gA ?_|((with_reducible refine atA_id ?_); refine AtA.eq (ldW36 hl rfl rfl) ?_)|(with_reducible first|refine gB ?_|refine gZ (fun x hx hu=>?_)|refine gY (fun x hx=>?_)|refine gE ?_|refine Both.mk ?_ ?_|refine gS (fun h=>?_) (fun h=>?_)|refine Spl.nt ?_|refine Spl.mk (fun h=>?_) (fun h=>?_))))
  conv => whnf
  generalize hv : ldA _ 0 _ = v
  have hv' : v = .dg 36 (encW (cutK (rdS d) b k)) := by
   rw [← hv]
   refine ldW36b hl ?_ rfl rfl
   show [] ++ _ ++ List.drop (0 + 36) ((encW w0).map AV.d) = _
   rw [List.nil_append, show List.drop (0 + 36) ((encW w0).map AV.d) = [] from rfl, List.append_nil]
  rw [hv', h16]
  rfl
theorem probs_nil {d : Option Dk} (h : probsD d = []) : nextW d = none := by unfold nextW; rw [h]
theorem probs_cons {d : Option Dk} {p : Int × Int} {t : List (Int × Int)} (h : probsD d = p :: t) : nextW d = some (if p.1 = 6 then cutK (rdS d) p.2 16 else entW (rdS d) p.2.toNat) := by unfold nextW; rw [h]
end Go.Proofs.YtmfokpfddponjaaGreatDoor
namespace Go.Proofs.YtmfokpfddponjaaGreatDoor
open Go.Sy
set_option maxHeartbeats 8000000 in
theorem next38_ok (d : Dk) (hd : DkOK (some d)) : FnC Tryz.prog 17 [.d (.fp 6 (encDk d))] (nextV (nextW (some d))) := by
 have hc : FnC Tryz.prog 36 [.d (.fp 6 (encDk d))] (.d (.fs 2 ((probsD (some d)).map encP))) := check_ok (some d) hd
 cases hp : probsD (some d) with
 | nil =>
  rw [hp] at hc
  rw [probs_nil hp]
  refine FnC.intro ti_ok Tryz.func17 rfl Tryz.ntmps17 Tryz.call17 rfl (Nat.le_of_ble_eq_true rfl) rfl ?_
  (repeat' ((conv=>whnf);first|with_reducible refine gA ?_|((with_reducible refine callE_id ?_); (refine CallE.con ⟨_, hc, ?_⟩))|(with_reducible first|refine gB ?_|refine gZ (fun x hx hu=>?_)|refine gY (fun x hx=>?_)|refine gE ?_|refine Both.mk ?_ ?_|refine gS (fun h=>?_) (fun h=>?_)|refine Spl.nt ?_|refine Spl.mk (fun h=>?_) (fun h=>?_))))
  rfl
 | cons p t =>
  rw [hp] at hc
  rw [probs_cons hp]
  have hl : (List.map encP t).length = t.length := List.length_map ..
  rcases probs_head hp with ⟨kind, k, k1, k2, k3, rfl, hP⟩ | ⟨b, b1, b2, rfl, hb⟩
  ·have he := mentry_ok (some d) hd k k3
   rw [if_neg (show ¬ ((kind : Nat) : Int) = 6 by omega)]
   show FnC _ _ _ (.tup [.dg 36 (encW (entW (rdS (some d)) k)), .d (.bl true)])
   have hc : FnC Tryz.prog 36 [.d (.fp 6 (encDk d))] (.d (.fs 2 ([.it .i64 (kind : Nat), .it .i64 (k : Nat)] :: t.map encP))) := hc
   refine FnC.intro ti_ok Tryz.func17 rfl Tryz.ntmps17 Tryz.call17 rfl (Nat.le_of_ble_eq_true rfl) rfl ?_
   (repeat' ((conv=>whnf);first|with_reducible refine gA ?_|((with_reducible refine callE_id ?_); first | (refine CallE.con ⟨_, hc, ?_⟩) | (refine CallE.con ⟨_, he, ?_⟩))|(with_reducible first|refine gB ?_|refine gZ (fun x hx hu=>?_)|refine gY (fun x hx=>?_)|refine gE ?_|refine Both.mk ?_ ?_|refine gS (fun h=>?_) (fun h=>?_)|refine Spl.nt ?_|refine Spl.mk (fun h=>?_) (fun h=>?_))))
   rfl
  ·have he := cut38_ok (some d) hd ((b : Nat) : Int) ⟨by omega, by omega⟩
   rw [if_pos rfl]
   have hs := cutK_s (rdS (some d)) ((b : Nat) : Int) 16
   show FnC _ _ _ (.tup [.dg 36 (encW (cutK (rdS (some d)) ((b : Nat) : Int) 16)), .d (.bl true)])
   generalize cutK (rdS (some d)) ((b : Nat) : Int) 16 = w at *
   have hc : FnC Tryz.prog 36 [.d (.fp 6 (encDk d))] (.d (.fs 2 ([.it .i64 6, .it .i64 (b : Nat)] :: t.map encP))) := hc
   refine FnC.intro ti_ok Tryz.func17 rfl Tryz.ntmps17 Tryz.call17 rfl (Nat.le_of_ble_eq_true rfl) rfl ?_
   (repeat' ((conv=>whnf);first|with_reducible refine gA ?_|((with_reducible refine callE_id ?_); first | (refine CallE.con ⟨_, hc, ?_⟩) | (refine CallE.con ⟨_, he, ?_⟩))|(with_reducible first|refine gB ?_|refine gZ (fun x hx hu=>?_)|refine gY (fun x hx=>?_)|refine gE ?_|refine Both.mk ?_ ?_|refine gS (fun h=>?_) (fun h=>?_)|refine Spl.nt ?_|refine Spl.mk (fun h=>?_) (fun h=>?_))))
   conv => whnf
   generalize hv : ldA _ 0 _ = v
   have hv' : v = .dg 36 (encW w) := by
    rw [← hv]
    refine ldW36b hs ?_ rfl rfl
    refine Eq.trans (List.append_nil ([] ++ _)) ?_
    exact List.nil_append _
   rw [hv']
   rfl
end Go.Proofs.YtmfokpfddponjaaGreatDoor
namespace Go.Proofs.YtmfokpfddponjaaGreatDoor
open Go.Sy
end Go.Proofs.YtmfokpfddponjaaGreatDoor
namespace Go.Proofs.YtmfokpfddponjaaGreatDoor
open Go.Sy
def kW38 : List Wr := [⟨19, k1S, 0, 0, 0⟩]
theorem kw38_ok : WsOK kW38 := by
 intro w hw
 simp only [kW38, List.mem_cons, List.not_mem_nil, or_false] at hw
 rcases hw with rfl; rfl
def d38 : Dk := dskD emptyM kW38
def w38 : Wr := ⟨19, zeroS, 3, 0, 0⟩
theorem kn1 : nextW (some d38) = some w38 := by kernel_rfl
theorem kn2 : nextW (some (itD d38 1)) = none := by kernel_rfl
theorem km38 : mntP (imgD (some d38)) := by decide +kernel
theorem num38_ok (n : Int) : FnC Tryz.prog 13 [.d (.it .i64 n)] (.d (.it .i64 n)) := by
 refine FnC.intro ti_ok Tryz.func13 rfl Tryz.ntmps13 Tryz.call13 rfl (Nat.le_of_ble_eq_true rfl) rfl ?_
 (repeat' ((conv=>whnf);first|with_reducible refine gA ?_|(with_reducible first|refine gB ?_|refine gZ (fun x hx hu=>?_)|refine gY (fun x hx=>?_)|refine gE ?_|refine Both.mk ?_ ?_|refine gS (fun h=>?_) (fun h=>?_)|refine Spl.nt ?_|refine Spl.mk (fun h=>?_) (fun h=>?_))))
 rfl
theorem hmnt38 (d : Dk) (h : Mnt d) (hl : d.wait.length ≤ 100000) : FnC Tryz.prog 6 [.d (.fp 6 (encDk d))] (.d (.bl true)) := by
 have := mntd_ok d (dkOK_of h hl)
 rw [decide_eq_true (mnt_to h)] at this
 exact this
set_option maxHeartbeats 16000000 in
theorem knows38_ok : FnC Tryz.prog 4 [] (.d (.bl true)) := by
 have ke := empty_ok
 have hOK : DkOK (some d38) := by
  have := dsk_OK (m := emptyM) (ws := kW38) em_ok kw38_ok (by decide)
  rw [show dskOf emptyM kW38 = some _ from if_pos (by decide)] at this
  exact this
 have hM := mnt_of hOK km38
 have hd : FnH Tryz.prog 5 [.d (encM emptyM), .d (.fs 36 (kW38.map encW))] [] 0 [] (.ptr 8 0) (dObsN 8 9 10 d38) 11 := diskH_ok emptyM em_ok kW38 kw38_ok (by decide) (by decide)
 have hx := mendH_ok next38_ok hmnt38 d38 hM ⟨by decide, by decide, by decide, by decide⟩ 1 (by decide) kn2 (fun j hj => by
  have : j = 0 := by omega
  subst this
  show nextW (some d38) ≠ none
  rw [kn1]; simp)
 have hN1 := next38_ok d38 hOK
 rw [kn1] at hN1
 have hN1 : FnC Tryz.prog 17 [.d (.fp 6 (encDk d38))] (.tup [.dg 36 (encW w38), .d (.bl true)]) := hN1
 have hM1 := it_mnt hM 1
 have hl1 := it_len d38 1
 have hw1 : d38.wait.length ≤ 1000 := by decide
 have hN2 := next38_ok (itD d38 1) (dkOK_of hM1 (by omega))
 rw [kn2] at hN2
 have hN2 : FnC Tryz.prog 17 [.d (.fp 6 (encDk (itD d38 1)))] (.tup [.dg 36 (encW w0), .d (.bl false)]) := hN2
 have hnl := mend_nil
 have n0 := num38_ok 0
 have n8 := num38_ok 8
 generalize itD d38 1 = D at *
 generalize d38 = d at *
 refine FnC.intro ti_ok Tryz.func4 rfl Tryz.ntmps4 Tryz.call4 rfl (Nat.le_of_ble_eq_true rfl) rfl ?_
 (repeat' ((conv=>whnf);first|with_reducible refine gA ?_|((with_reducible refine callE_id ?_); first | (refine CallE.con ⟨_, ke, ?_⟩) | (refine CallE.con ⟨_, n0, ?_⟩) | (refine CallE.con ⟨_, n8, ?_⟩) | (refine CallE.con ⟨_, hnl, ?_⟩) | refine CallE.inl ?_) | ((with_reducible refine callI_id ?_); first | refine CallI.byHp hd [] (And.intro (.inl rfl) (And.intro (.inr (by with_unfolding_all exact rfl)) trivial)) ⟨rfl, by decide, rfl⟩ trivial rfl rfl ?_ | refine CallI.byR (CallR.mk ⟨[.d (.fp 6 (encDk d))], _, And.intro ⟨6, _, by with_unfolding_all exact rfl, Nat.le_refl _, rfl, rfl⟩ trivial, hN1, by with_unfolding_all exact rfl, ?_⟩) | refine CallI.byH hx [8, 9, 10] (by with_unfolding_all exact rfl) ⟨rfl, by decide, by with_unfolding_all exact rfl⟩ (And.intro rfl (And.intro rfl (And.intro rfl trivial))) rfl rfl ?_)|(with_reducible first|refine gB ?_|refine gZ (fun x hx hu=>?_)|refine gY (fun x hx=>?_)|refine gE ?_|refine Both.mk ?_ ?_|refine gS (fun h=>?_) (fun h=>?_)|refine Spl.nt ?_|refine Spl.mk (fun h=>?_) (fun h=>?_))))
 (repeat' ((conv=>whnf);first|with_reducible refine gA ?_|((with_reducible refine callE_id ?_); first | (refine CallE.con ⟨_, n0, ?_⟩) | (refine CallE.con ⟨_, n8, ?_⟩) | (refine CallE.con ⟨_, hnl, ?_⟩) | refine CallE.inl ?_) | ((with_reducible refine callI_id ?_); first | refine CallI.byR (CallR.mk ⟨[.d (.fp 6 (encDk D))], _, And.intro ⟨6, _, by with_unfolding_all exact rfl, Nat.le_refl _, rfl, rfl⟩ trivial, hN2, by with_unfolding_all exact rfl, ?_⟩))|(with_reducible first|refine gB ?_|refine gZ (fun x hx hu=>?_)|refine gY (fun x hx=>?_)|refine gE ?_|refine Both.mk ?_ ?_|refine gS (fun h=>?_) (fun h=>?_)|refine Spl.nt ?_|refine Spl.mk (fun h=>?_) (fun h=>?_))))
 rfl
end Go.Proofs.YtmfokpfddponjaaGreatDoor
