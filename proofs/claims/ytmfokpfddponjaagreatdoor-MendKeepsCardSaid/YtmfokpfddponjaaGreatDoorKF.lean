/- Contracts of the functions that the law reaches, and the law. Conditions: none. -/
import Derived.Test.YtmfokpfddponjaaGreatDoorKA
import Derived.Test.YtmfokpfddponjaaGreatDoorKC
import Derived.Test.YtmfokpfddponjaaGreatDoorKD
import Derived.Test.YtmfokpfddponjaaGreatDoorSD
import Derived.WalkKit
import Derived.LoopTactic
import Derived.Lib.Buffer
import Derived.Lib.BufferWrite
import Derived.Deep.Draws
import Derived.Test.YtmfokpfddponjaaGreatDoorProg
set_option maxRecDepth 100000
set_option linter.all false
namespace Go.Proofs.YtmfokpfddponjaaGreatDoor
open Go.Sy
def pw : List UInt8 → List (List UInt8)
 | [] => []
 | _ :: t => wordsC 47 t
theorem wordsC_app {s : List UInt8} (hs : s = [] ∨ s.head? = some 47) : ∀ {w : List UInt8}, w.all (fun b => b != 47) = true → wordsC 47 (w ++ s) = w :: pw s
 | [], _ => by
  cases s with
  | nil => rfl
  | cons b t =>
   rcases hs with hs | hs
   ·cases hs
   ·obtain rfl : b = 47 := Option.some.inj hs
    rfl
 | b :: w, h => by
  rw [List.all_cons, Bool.and_eq_true] at h
  have hb : ¬ b = 47 := by simpa using h.1
  rw [List.cons_append, wordsC, if_neg hb, wordsC_app hs h.2]
theorem splitP_pw0 {p : List UInt8} (h1 : ¬ p = [47]) (h0 : p[0]? = some 47) (h2 : (pw p).length ≤ 4) (h3 : (pw p).all nameB = true) : splitP p = (pw p, 0) := by
 cases p with
 | nil => cases h0
 | cons b r =>
  obtain rfl : b = 47 := Option.some.inj h0
  exact splitP_0 h1 h2 h3
end Go.Proofs.YtmfokpfddponjaaGreatDoor
namespace Go.Proofs.YtmfokpfddponjaaGreatDoor
open Go.Sy
end Go.Proofs.YtmfokpfddponjaaGreatDoor
namespace Go.Proofs.YtmfokpfddponjaaGreatDoor
open Go.Sy
def joinR (l : List (List UInt8)) : List UInt8 := if l = [] then [47] else joinP l
theorem splitP_name (p : List UInt8) : (splitP p).1.length ≤ 4 ∧ (splitP p).1.all nameB = true ∧ ((splitP p).1 ≠ [] → (splitP p).2 = 0) := by
 unfold splitP
 split
 ·exact ⟨by simp, rfl, fun h => absurd rfl h⟩
 ·split
  ·exact ⟨by simp, rfl, fun h => absurd rfl h⟩
  ·split
   ·split
    ·rename_i h; exact ⟨h.1, h.2, fun _ => rfl⟩
    ·exact ⟨by simp, rfl, fun h => absurd rfl h⟩
   ·exact ⟨by simp, rfl, fun h => absurd rfl h⟩
theorem pathJoin_ok (l : List (List UInt8)) (hn : l.length ≤ 1000000) (hl : (Lib.join l [47]).length ≤ 1000000) : FnC Tryz.prog 50 [.d (.fs 1 (l.map stL))] (.d (.st (47 :: Lib.join l [47]))) := by
 refine FnC.intro ti_ok Tryz.func50 rfl Tryz.ntmps50 Tryz.call50 rfl (Nat.le_of_ble_eq_true rfl) rfl ?_
 (repeat' ((conv=>whnf);first|with_reducible refine gA ?_|refine CallE.con ⟨_, join_ok l [47] hn (by omega), ?_⟩|(with_reducible first|refine gB ?_|refine gZ (fun x hx hu=>?_)|refine gY (fun x hx=>?_)|refine gE ?_|refine Both.mk ?_ ?_|refine gS (fun h=>?_) (fun h=>?_)|refine Spl.nt ?_|refine Spl.mk (fun h=>?_) (fun h=>?_))))
 rfl
end Go.Proofs.YtmfokpfddponjaaGreatDoor
namespace Go.Proofs.YtmfokpfddponjaaGreatDoor
open Go.Sy
theorem bytesD_app (a b : List UInt8) : bytesD (a ++ b) = bytesD a ++ bytesD b := by simp [bytesD]
end Go.Proofs.YtmfokpfddponjaaGreatDoor
namespace Go.Proofs.YtmfokpfddponjaaGreatDoor
open Go.Sy
end Go.Proofs.YtmfokpfddponjaaGreatDoor
namespace Go.Proofs.YtmfokpfddponjaaGreatDoor
open Go.Sy
theorem less_lt : ∀ a b : List UInt8, Op.bytesLess a b = true ↔ a < b
 | [], [] => by simp [Op.bytesLess]
 | [], _ :: _ => by simp [Op.bytesLess]
 | _ :: _, [] => by simp [Op.bytesLess]
 | a :: s, b :: t => by
  rw [List.cons_lt_cons_iff, ← less_lt s t]
  simp [Op.bytesLess]
theorem le_less (a b : List UInt8) : a ≤ b ↔ Op.bytesLess b a = false := by
 rw [← Bool.not_eq_true, less_lt]; exact Iff.rfl
theorem le_tr {a b c : List UInt8} (h : a ≤ b) (k : b ≤ c) : a ≤ c := by
 rw [le_less] at h k ⊢
 cases hc : Op.bytesLess c a with
 | false => rfl
 | true =>
  cases hb : Op.bytesLess c b with
  | true => rw [hb] at k; cases k
  | false =>
   have := less_tri c b hb
   cases hb' : Op.bytesLess b c with
   | false => rw [this hb'] at hc; rw [hc] at h; cases h
   | true => rw [less_trans b c a hb' hc] at h; cases h
theorem lt_of_le_ne {a b : List UInt8} (h : a ≤ b) (k : a ≠ b) : a < b := by
 rw [← less_lt]
 rw [le_less] at h
 cases hc : Op.bytesLess a b with
 | true => rfl
 | false => exact absurd (less_tri a b hc h) k
theorem lt_of_le_lt {a b c : List UInt8} (h : a ≤ b) (k : b < c) : a < c := by
 by_cases e : a = b
 ·rw [e]; exact k
 ·have := lt_of_le_ne h e
  rw [← less_lt] at this k ⊢
  exact less_trans a b c this k
theorem not_lt_self (a : List UInt8) : ¬ a < a := by rw [← less_lt, less_irr]; simp
theorem sortS_sorted (l : List (List UInt8)) : (sortS l).Pairwise (· ≤ ·) := by
 have := List.pairwise_mergeSort (le := fun x y : List UInt8 => decide (x ≤ y)) (fun a b c h k => by simp only [decide_eq_true_eq] at h k ⊢; exact le_tr h k)
  (fun a b => by
   simp only [Bool.or_eq_true, decide_eq_true_eq, le_less]
   cases h : Op.bytesLess b a with
   | false => exact .inl rfl
   | true => exact .inr (less_asy b a h)) l
 exact this.imp fun h => by simpa using h
theorem compact_sorted {l : List (List UInt8)} (h : l.Pairwise (· ≤ ·)) : (Lib.compact l).Pairwise (· < ·) := by
 have hg : ∀ i j (hi : i < l.length) (hj : j < l.length), i ≤ j → l[i] ≤ l[j] := fun i j hi hj hij => by
  rcases Nat.lt_or_eq_of_le hij with h1 | rfl
  ·exact List.pairwise_iff_getElem.1 h i j hi hj h1
  ·rw [le_less]; exact less_irr _
 have hb : ∀ i (hi : i < l.length), (l.toArray)[i]! = l[i] := fun i hi => by
  rw [getElem!_pos l.toArray i (by simpa using hi)]; simp
 unfold Lib.compact Lib.compactUpTo
 rw [List.pairwise_map, List.pairwise_filter]
 refine List.pairwise_lt_range.imp_of_mem fun {i j} hi hj hij _ hk => ?_
 rw [List.mem_range] at hi hj
 unfold Lib.keeps at hk
 have hk := of_decide_eq_true hk
 rcases hk with hk | hk
 ·omega
 ·rw [hb j hj, hb (j - 1) (by omega)] at hk
  rw [hb i hi, hb j hj]
  exact lt_of_le_lt (hg i (j - 1) hi (by omega) (by omega)) (lt_of_le_ne (hg (j - 1) j (by omega) hj (by omega)) fun e => hk e.symm)
theorem compact_mem {l : List (List UInt8)} (x : List UInt8) : x ∈ Lib.compact l ↔ x ∈ l := by
 have hb : ∀ i (hi : i < l.length), (l.toArray)[i]! = l[i] := fun i hi => by
  rw [getElem!_pos l.toArray i (by simpa using hi)]; simp
 unfold Lib.compact Lib.compactUpTo
 constructor
 ·intro h
  obtain ⟨i, hi, rfl⟩ := List.mem_map.1 h
  have := List.mem_range.1 (List.mem_filter.1 hi).1
  rw [hb i this]
  exact List.getElem_mem _
 ·intro h
  have key : ∀ i (hi : i < l.length), l[i] ∈ ((List.range l.length).filter (Lib.keeps l.toArray)).map (l.toArray[·]!) := by
   intro i
   induction i with
   | zero =>
    intro hi
    refine List.mem_map.2 ⟨0, List.mem_filter.2 ⟨List.mem_range.2 hi, by simp [Lib.keeps]⟩, hb 0 hi⟩
   | succ i ih =>
    intro hi
    by_cases e : l[i + 1] = l[i]
    ·rw [e]; exact ih (by omega)
    ·refine List.mem_map.2 ⟨i + 1, List.mem_filter.2 ⟨List.mem_range.2 hi, ?_⟩, hb _ hi⟩
     unfold Lib.keeps
     refine decide_eq_true (.inr ?_)
     rw [hb _ hi, Nat.add_sub_cancel, hb i (by omega)]
     exact e
  obtain ⟨i, hi, rfl⟩ := List.getElem_of_mem h
  exact key i hi
end Go.Proofs.YtmfokpfddponjaaGreatDoor
namespace Go.Proofs.YtmfokpfddponjaaGreatDoor
open Go.Sy
def kOf (f : Int → List UInt8) (n : Int) (s : List UInt8) : Int := match fndK f n s with
 | some k => (k : Nat)
 | none => 0
def mOf (f : Int → List UInt8) (n : Int) (s : List UInt8) : Int := (entAt f (kOf f n s)).t
def dataV (f : Int → List UInt8) (x : Ino) : List UInt8 := (f (40 + x.b0) ++ f (40 + x.b1) ++ f (40 + x.b2) ++ f (40 + x.b3)).take x.z.toNat
def nodV (f : Int → List UInt8) (way : List (List UInt8)) (n : Int) (s : List UInt8) : Nod := ⟨joinR (way ++ [s]), (inoAt f (mOf f n s)).k == 2, dataV f (inoAt f (mOf f n s))⟩
def subV (f : Int → List UInt8) : Nat → Int → List (List UInt8) → List Nod
 | 0, _, _ => []
 | j + 1, n, way => (nms f n).flatMap fun s => nodV f way n s :: (if (inoAt f (mOf f n s)).k = 2 then subV f j (mOf f n s) (way ++ [s]) else [])
def subL (f : Int → List UInt8) (j : Nat) (n : Int) (way : List (List UInt8)) (l : List (List UInt8)) : List Nod := l.flatMap fun s => nodV f way n s :: (if (inoAt f (mOf f n s)).k = 2 then subV f j (mOf f n s) (way ++ [s]) else [])
theorem subL_cons (f : Int → List UInt8) (j : Nat) (n : Int) (way : List (List UInt8)) (s : List UInt8) (l : List (List UInt8)) : subL f j n way (s :: l) = nodV f way n s :: ((if (inoAt f (mOf f n s)).k = 2 then subV f j (mOf f n s) (way ++ [s]) else []) ++ subL f j n way l) := by
 unfold subL
 rw [List.flatMap_cons]; rfl
def topV (L : List Nod) : List Nod × Bool := (L.take 64, decide (L.length ≤ 64))
def treeV (f : Int → List UInt8) : List Nod × Bool := if (inoAt f 0).k = 2 then topV (subV f 4 0 []) else ([], true)
def tupN (r : List Nod × Bool) : AV := .tup [.d (.fs 3 (r.1.map encN)), .d (.bl r.2)]
theorem nms_name (f : Int → List UInt8) (n : Int) : ∀ s ∈ nms f n, nameB s = true := by
 intro s hs
 unfold nms at hs
 rw [compact_mem] at hs
 have hs := (List.mem_mergeSort).1 hs
 unfold nmsK at hs
 obtain ⟨k, hk, rfl⟩ := List.mem_map.1 hs
 have := of_decide_eq_true (List.mem_filter.1 hk).2
 have hu := this.1
 rcases entAt_RE f (k : Nat) with h | h
 ·rw [h.1] at hu; cases hu
 ·exact h.2.2.2.2.2
theorem name_len {s : List UInt8} (h : nameB s = true) : s.length ≤ 8 := by
 unfold nameB at h
 rw [Bool.and_eq_true] at h
 exact (of_decide_eq_true h.1).2.1
theorem nms_len (f : Int → List UInt8) (n : Int) : (nms f n).length ≤ 24 := by
 unfold nms
 have h1 := Lib.compact_length_le (sortS (nmsK f n 24))
 have h2 := nmsK_len f n 24
 rw [sortS_len] at h1
 omega
end Go.Proofs.YtmfokpfddponjaaGreatDoor
namespace Go.Proofs.YtmfokpfddponjaaGreatDoor
open Go.Sy
theorem name_noS {s : List UInt8} (h : nameB s = true) : s.all (fun b => b != 47) = true := by
 simp only [nameB, Bool.and_eq_true, List.all_eq_true] at h
 rw [List.all_eq_true]
 intro b hb
 have := h.2 b hb
 simp only [signB, decide_eq_true_eq] at this
 rw [bne_iff_ne]
 intro e
 subst e
 revert this; decide
theorem pw_joinP : ∀ (l : List (List UInt8)), (∀ s ∈ l, nameB s = true) → pw (joinP l) = l
 | [], _ => rfl
 | s :: t, h => by
  have e : joinP (s :: t) = 47 :: (s ++ joinP t) := by simp [joinP]
  rw [e, pw, wordsC_app ?_ (name_noS (h s (List.mem_cons_self ..))), pw_joinP t fun x hx => h x (List.mem_cons_of_mem _ hx)]
  cases t with
  | nil => exact .inl rfl
  | cons a b => right; simp [joinP]
theorem split_joinR {l : List (List UInt8)} (h : ∀ s ∈ l, nameB s = true) (h4 : l.length ≤ 4) : splitP (joinR l) = (l, 0) := by
 by_cases h0 : l = []
 ·subst h0; rfl
 ·have hp := pw_joinP l h
  rw [joinR, if_neg h0]
  have hh : (joinP l)[0]? = some 47 := by
   cases l with
   | nil => exact absurd rfl h0
   | cons a b => simp [joinP]
  have h1 : ¬ joinP l = [47] := fun e => by
   rw [e] at hp
   have e2 : l = [[]] := hp.symm
   subst e2
   have := h [] (List.mem_cons_self ..)
   revert this; decide
  rw [splitP_pw0 h1 hh (by rw [hp]; exact h4) (by rw [hp, List.all_eq_true]; exact h), hp]
theorem join_splitP {p : List UInt8} (h : (splitP p).2 = 0) : joinR (splitP p).1 = p := by
 unfold splitP at h ⊢
 split
 ·rename_i h1; subst h1; rfl
 ·rename_i h1
  rw [if_neg h1] at h
  cases p with
  | nil => exact absurd h (by decide)
  | cons b r =>
   simp only at h ⊢
   split
   ·rename_i h2
    rw [if_pos h2] at h
    subst h2
    split
    ·rw [joinR, if_neg (wordsC_ne 47 r), joinP_words]
    ·rename_i h3; rw [if_neg h3] at h; exact absurd h (by decide)
   ·rename_i h2; rw [if_neg h2] at h; exact absurd h (by decide)
theorem lkp_app (f : Int → List UInt8) : ∀ (a b : List (List UInt8)) (n m : Int), lkp f a n = (m, 0) → lkp f (a ++ b) n = lkp f b m
 | [], b, n, m, h => by
  rw [lkp] at h
  obtain rfl : n = m := (Prod.ext_iff.1 h).1
  rfl
 | s :: t, b, n, m, h => by
  rw [List.cons_append, lkp]
  rw [lkp] at h
  by_cases h0 : (stepV f n s).2 = 0
  ·rw [if_pos h0] at h ⊢
   exact lkp_app f t b _ m h
  ·rw [if_neg h0] at h
   exact absurd (Prod.ext_iff.1 h).2 h0
theorem nms_fnd (f : Int → List UInt8) (n : Int) (s : List UInt8) : s ∈ nms f n ↔ ∃ k, fndK f n s = some k ∧ fndP f n s k := by
 unfold nms
 rw [compact_mem, sortS, List.mem_mergeSort, nmsK]
 constructor
 ·intro h
  obtain ⟨k, hk, e⟩ := List.mem_map.1 h
  obtain ⟨hk, hs⟩ := List.mem_filter.1 hk
  have hs := of_decide_eq_true hs
  cases hf : fndK f n s with
  | none =>
   unfold fndK at hf
   rw [List.find?_eq_none] at hf
   exact absurd (decide_eq_true (⟨hs, e⟩ : fndP f n s k)) (hf k hk)
  | some j =>
   refine ⟨j, rfl, ?_⟩
   unfold fndK at hf
   have := List.find?_some hf
   exact of_decide_eq_true this
 ·rintro ⟨k, hk, hp⟩
  unfold fndK at hk
  exact List.mem_map.2 ⟨k, List.mem_filter.2 ⟨List.mem_of_find?_eq_some hk, decide_eq_true hp.1⟩, hp.2⟩
theorem step_nms {f : Int → List UInt8} {n : Int} {s : List UInt8} (h2 : (inoAt f n).k = 2) (hs : s ∈ nms f n) : stepV f n s = (mOf f n s, 0) ∧ (inoAt f (mOf f n s)).k ≠ 0 := by
 obtain ⟨k, hk, hp⟩ := (nms_fnd f n s).1 hs
 have e : mOf f n s = (entAt f (k : Nat)).t := by unfold mOf kOf; rw [hk]
 refine ⟨?_, ?_⟩
 ·unfold stepV; rw [if_pos h2, hk, e]
 ·rw [e]; exact hp.1.2.2
theorem nms_step {f : Int → List UInt8} {n : Int} {s : List UInt8} (h : (stepV f n s).2 = 0) : (inoAt f n).k = 2 ∧ s ∈ nms f n ∧ (stepV f n s).1 = mOf f n s := by
 unfold stepV at h ⊢
 by_cases h2 : (inoAt f n).k = 2
 ·rw [if_pos h2] at h ⊢
  cases hk : fndK f n s with
  | none => rw [hk] at h; cases h
  | some k =>
   refine ⟨h2, (nms_fnd f n s).2 ⟨k, hk, ?_⟩, ?_⟩
   ·unfold fndK at hk
    have := List.find?_some hk
    exact of_decide_eq_true this
   ·unfold mOf kOf; rw [hk]
 ·rw [if_neg h2] at h; exact absurd h (by decide)
def FoundV (f : Int → List UInt8) (way rest : List (List UInt8)) (x : Nod) : Prop :=
 ∃ m : Int, x.p = joinR (way ++ rest) ∧ (∀ s ∈ rest, nameB s = true) ∧ rest ≠ [] ∧ lkp f (way ++ rest) 0 = (m, 0) ∧ x.d = ((inoAt f m).k == 2) ∧ (inoAt f m).k ≠ 0 ∧ x.x = dataV f (inoAt f m)
theorem sub_mem (f : Int → List UInt8) : ∀ (j : Nat) (n : Int) (way : List (List UInt8)), lkp f way 0 = (n, 0) → (inoAt f n).k = 2 → ∀ x ∈ subV f j n way, ∃ rest, rest.length ≤ j ∧ FoundV f way rest x
 | 0, _, _, _, _, x, hx => by cases hx
 | j + 1, n, way, hw, h2, x, hx => by
  rw [subV] at hx
  obtain ⟨s, hs, hx⟩ := List.mem_flatMap.1 hx
  obtain ⟨e1, e2⟩ := step_nms h2 hs
  have hn := nms_name f n s hs
  have hw' : lkp f (way ++ [s]) 0 = (mOf f n s, 0) := by
   rw [lkp_app f way [s] 0 n hw, lkp, e1, if_pos rfl, lkp]
  rcases List.mem_cons.1 hx with rfl | hx
  ·exact ⟨[s], by simp, mOf f n s, rfl, fun a ha => by rw [List.mem_singleton.1 ha]; exact hn, by simp, hw', rfl, e2, rfl⟩
  ·by_cases hk : (inoAt f (mOf f n s)).k = 2
   ·rw [if_pos hk] at hx
    obtain ⟨r, hr, m, a1, a2, a3, a4, a5, a6, a7⟩ := sub_mem f j (mOf f n s) (way ++ [s]) hw' hk x hx
    rw [List.append_assoc] at a1 a4
    refine ⟨[s] ++ r, by simp; omega, m, a1, fun a ha => ?_, by simp, a4, a5, a6, a7⟩
    rcases List.mem_append.1 ha with ha | ha
    ·rw [List.mem_singleton.1 ha]; exact hn
    ·exact a2 a ha
   ·rw [if_neg hk] at hx; cases hx
theorem sub_all (f : Int → List UInt8) : ∀ (j : Nat) (n : Int) (way : List (List UInt8)) (rest : List (List UInt8)) (m : Int), rest ≠ [] → rest.length ≤ j → lkp f rest n = (m, 0) → ∃ x ∈ subV f j n way, x.p = joinR (way ++ rest)
 | j, n, way, [], m, h0, _, _ => absurd rfl h0
 | 0, n, way, s :: t, m, _, hj, _ => by cases hj
 | j + 1, n, way, s :: t, m, _, hj, h => by
  rw [lkp] at h
  by_cases h0 : (stepV f n s).2 = 0
  ·rw [if_pos h0] at h
   obtain ⟨a1, a2, a3⟩ := nms_step h0
   rw [a3] at h
   rw [subV]
   by_cases ht : t = []
   ·subst ht
    exact ⟨_, List.mem_flatMap.2 ⟨s, a2, List.mem_cons_self ..⟩, rfl⟩
   ·have hk : (inoAt f (mOf f n s)).k = 2 := by
     cases t with
     | nil => exact absurd rfl ht
     | cons a b =>
      rw [lkp] at h
      by_cases hs : (stepV f (mOf f n s) a).2 = 0
      ·exact (nms_step hs).1
      ·rw [if_neg hs] at h; exact absurd (Prod.ext_iff.1 h).2 hs
    obtain ⟨x, hx, e⟩ := sub_all f j (mOf f n s) (way ++ [s]) t m ht (by simp at hj; omega) h
    refine ⟨x, List.mem_flatMap.2 ⟨s, a2, List.mem_cons_of_mem _ (by rw [if_pos hk]; exact hx)⟩, ?_⟩
    rw [e, List.append_assoc]; rfl
  ·rw [if_neg h0] at h; exact absurd (Prod.ext_iff.1 h).2 h0
theorem befN_app : ∀ (w a b : List (List UInt8)), befN (w ++ a) (w ++ b) = befN a b
 | [], _, _ => rfl
 | x :: w, a, b => by rw [List.cons_append, List.cons_append, befN, if_pos rfl, befN_app w]
theorem sub_sort (f : Int → List UInt8) : ∀ (j : Nat) (n : Int) (way : List (List UInt8)), lkp f way 0 = (n, 0) → (inoAt f n).k = 2 → (∀ s ∈ way, nameB s = true) → way.length + j ≤ 4 → (subV f j n way).Pairwise fun x y => befN (key x.p) (key y.p) = true
 | 0, _, _, _, _, _, _ => List.Pairwise.nil
 | j + 1, n, way, hw, h2, hn, h4 => by
  have hkey : ∀ (i : Nat) (w rest : List (List UInt8)) (x : Nod), FoundV f w rest x → (∀ s ∈ w, nameB s = true) → (w ++ rest).length ≤ 4 → key x.p = w ++ rest := fun i w rest x ⟨m, a1, a2, _⟩ hw hl => by
   unfold key
   rw [a1, split_joinR (fun s hs => (List.mem_append.1 hs).elim (hw s) (a2 s)) hl]
  have hone : ∀ s ∈ nms f n, ∀ x ∈ (nodV f way n s :: (if (inoAt f (mOf f n s)).k = 2 then subV f j (mOf f n s) (way ++ [s]) else [])), ∃ r, key x.p = way ++ (s :: r) := by
   intro s hs x hx
   obtain ⟨e1, e2⟩ := step_nms h2 hs
   have hns := nms_name f n s hs
   have hw' : lkp f (way ++ [s]) 0 = (mOf f n s, 0) := by
    rw [lkp_app f way [s] 0 n hw, lkp, e1, if_pos rfl, lkp]
   rcases List.mem_cons.1 hx with rfl | hx
   ·refine ⟨[], ?_⟩
    show key (joinR (way ++ [s])) = _
    unfold key
    rw [split_joinR (fun a ha => (List.mem_append.1 ha).elim (hn a) fun q => by rw [List.mem_singleton.1 q]; exact hns) (by simp; omega)]
   ·by_cases hk : (inoAt f (mOf f n s)).k = 2
    ·rw [if_pos hk] at hx
     obtain ⟨r, hr, hf⟩ := sub_mem f j (mOf f n s) (way ++ [s]) hw' hk x hx
     refine ⟨r, ?_⟩
     rw [hkey j (way ++ [s]) r x hf (fun a ha => (List.mem_append.1 ha).elim (hn a) fun q => by rw [List.mem_singleton.1 q]; exact hns) (by simp; omega), List.append_assoc]; rfl
    ·rw [if_neg hk] at hx; cases hx
  rw [subV, List.pairwise_flatMap]
  refine ⟨fun s hs => ?_, ?_⟩
  ·obtain ⟨e1, e2⟩ := step_nms h2 hs
   have hns := nms_name f n s hs
   have hw' : lkp f (way ++ [s]) 0 = (mOf f n s, 0) := by
    rw [lkp_app f way [s] 0 n hw, lkp, e1, if_pos rfl, lkp]
   have hnw : ∀ a ∈ way ++ [s], nameB a = true := fun a ha => (List.mem_append.1 ha).elim (hn a) fun q => by rw [List.mem_singleton.1 q]; exact hns
   rw [List.pairwise_cons]
   by_cases hk : (inoAt f (mOf f n s)).k = 2
   ·rw [if_pos hk]
    refine ⟨fun x hx => ?_, sub_sort f j (mOf f n s) (way ++ [s]) hw' hk hnw (by simp; omega)⟩
    obtain ⟨r, hr, hf⟩ := sub_mem f j (mOf f n s) (way ++ [s]) hw' hk x hx
    have e0 : key (nodV f way n s).p = (way ++ [s]) ++ [] := by
     show key (joinR (way ++ [s])) = _
     unfold key
     rw [split_joinR hnw (by simp; omega), List.append_nil]
    rw [e0, hkey j (way ++ [s]) r x hf hnw (by simp; omega), befN_app]
    obtain ⟨m, _, _, a3, _⟩ := hf
    cases r with
    | nil => exact absurd rfl a3
    | cons a b => rfl
   ·rw [if_neg hk]; exact ⟨fun x hx => (List.not_mem_nil hx).elim, List.Pairwise.nil⟩
  ·refine List.Pairwise.imp_of_mem (R := (· < ·)) (fun {s t} hs ht hst x hx y hy => ?_) (compact_sorted (sortS_sorted _))
   obtain ⟨r, hr⟩ := hone s hs x hx
   obtain ⟨q, hq⟩ := hone t ht y hy
   have : ¬ s = t := fun e => not_lt_self s (by rw [← e] at hst; exact hst)
   rw [hr, hq, befN_app, befN, if_neg this]
   exact (less_lt s t).2 hst
def TreeOK (f : Int → List UInt8) (t : List Nod × Bool) : Prop :=
 t.1.length ≤ 64 ∧ (t.2 = false → t.1.length = 64)
 ∧ (∀ x ∈ t.1, ∃ m : Int, lookP f x.p = (m, 0) ∧ x.d = ((inoAt f m).k == 2) ∧ (inoAt f m).k ≠ 0 ∧ x.x = dataV f (inoAt f m) ∧ x.p ≠ [47])
 ∧ t.1.Pairwise (fun x y => befN (key x.p) (key y.p) = true)
 ∧ (t.2 = true → ∀ p : List UInt8, (∃ x ∈ t.1, x.p = p) ↔ (lookP f p).2 = 0 ∧ p ≠ [47])
theorem tree_law (f : Int → List UInt8) : TreeOK f (treeV f) := by
 unfold treeV
 by_cases h2 : (inoAt f 0).k = 2
 ·rw [if_pos h2]
  have hm : ∀ x ∈ subV f 4 0 [], ∃ m : Int, lookP f x.p = (m, 0) ∧ x.d = ((inoAt f m).k == 2) ∧ (inoAt f m).k ≠ 0 ∧ x.x = dataV f (inoAt f m) ∧ x.p ≠ [47] := by
   intro x hx
   obtain ⟨r, hr, m, a1, a2, a3, a4, a5, a6, a7⟩ := sub_mem f 4 0 [] rfl h2 x hx
   rw [List.nil_append] at a1 a4
   have e := split_joinR a2 hr
   refine ⟨m, ?_, a5, a6, a7, fun q => ?_⟩
   ·unfold lookP; rw [a1, e, if_pos rfl, a4]
   ·rw [← a1, q] at e
    exact a3 (Prod.ext_iff.1 e).1.symm
  have hs := sub_sort f 4 0 [] rfl h2 (fun s hs => by cases hs) (Nat.le_refl 4)
  unfold topV
  refine ⟨by simp only [List.length_take]; omega, fun h => ?_, fun x hx => hm x (List.mem_of_mem_take hx), hs.sublist (List.take_sublist ..), fun h p => ?_⟩
  ·have := of_decide_eq_false h
   simp only [List.length_take]; omega
  ·have h := of_decide_eq_true h
   simp only [List.take_of_length_le h]
   constructor
   ·rintro ⟨x, hx, rfl⟩
    obtain ⟨m, a1, _, _, _, a2⟩ := hm x hx
    exact ⟨by rw [a1], a2⟩
   ·rintro ⟨h0, h1⟩
    have hsp : (splitP p).2 = 0 := by
     unfold lookP at h0
     by_cases q : (splitP p).2 = 0
     ·exact q
     ·rw [if_neg q] at h0; exact h0
    have e := join_splitP hsp
    unfold lookP at h0
    rw [if_pos hsp] at h0
    obtain ⟨x, hx, ex⟩ := sub_all f 4 0 [] (splitP p).1 (lkp f (splitP p).1 0).1 (fun q => by rw [q] at e; exact h1 e.symm) (splitP_len p) (Prod.ext rfl h0)
    exact ⟨x, hx, by rw [ex, List.nil_append, e]⟩
 ·rw [if_neg h2]
  refine ⟨Nat.zero_le _, fun h => (by cases h), fun x hx => (List.not_mem_nil hx).elim, List.Pairwise.nil, fun _ p => ?_⟩
  constructor
  ·rintro ⟨x, hx, _⟩; cases hx
  ·rintro ⟨h0, h1⟩
   exfalso
   unfold lookP at h0
   by_cases q : (splitP p).2 = 0
   ·rw [if_pos q] at h0
    have e := join_splitP q
    cases hp : (splitP p).1 with
    | nil => rw [hp] at e; exact h1 e.symm
    | cons a b =>
     rw [hp, lkp] at h0
     by_cases hs : (stepV f 0 a).2 = 0
     ·exact h2 (nms_step hs).1
     ·rw [if_neg hs] at h0; exact hs h0
   ·rw [if_neg q] at h0; exact q h0
end Go.Proofs.YtmfokpfddponjaaGreatDoor
namespace Go.Proofs.YtmfokpfddponjaaGreatDoor
open Go.Sy
theorem fndK_is {f : Int → List UInt8} {n : Int} {s : List UInt8} {j : Nat} (h : fndK f n s = some j) : j < 24 ∧ fndP f n s j ∧ ∀ i, i < j → ¬ fndP f n s i := by
 unfold fndK at h
 obtain ⟨h1, k, h2, h3, h4⟩ := List.find?_eq_some_iff_getElem.1 h
 simp only [List.length_range] at h2
 simp only [List.getElem_range] at h3 h4
 subst h3
 exact ⟨h2, of_decide_eq_true h1, fun i hi hp => by have := h4 i hi; rw [decide_eq_true hp] at this; exact absurd this (by decide)⟩
theorem step_is {f : Int → List UInt8} {n m : Int} {s : List UInt8} (h : stepV f n s = (m, 0)) : (inoAt f n).k = 2 ∧ ∃ j, fndK f n s = some j ∧ m = (entAt f (j : Nat)).t := by
 unfold stepV at h
 by_cases h2 : (inoAt f n).k = 2
 ·rw [if_pos h2] at h
  cases hk : fndK f n s with
  | none => rw [hk] at h; exact absurd (Prod.ext_iff.1 h).2 (by show ¬ ((4 : Int) = 0); decide)
  | some j => rw [hk] at h; exact ⟨h2, j, rfl, (Prod.ext_iff.1 h).1.symm⟩
 ·rw [if_neg h2] at h; exact absurd (Prod.ext_iff.1 h).2 (by show ¬ ((6 : Int) = 0); decide)
theorem step_of {f : Int → List UInt8} {n : Int} {s : List UInt8} {j : Nat} (h2 : (inoAt f n).k = 2) (h : fndK f n s = some j) : stepV f n s = ((entAt f (j : Nat)).t, 0) := by
 unfold stepV; rw [if_pos h2, h]
def RchF (f : Int → List UInt8) (n : Int) : Prop := ∃ way, lkp f way 0 = (n, 0)
theorem rch_step {f : Int → List UInt8} {n m : Int} {s : List UInt8} (h : RchF f n) (hs : stepV f n s = (m, 0)) : RchF f m := by
 obtain ⟨w, hw⟩ := h
 refine ⟨w ++ [s], ?_⟩
 rw [lkp_app f w [s] 0 n hw, lkp, hs, if_pos rfl, lkp]
structure EntGone (f f' : Int → List UInt8) (k : Nat) : Prop where
 k24 : k < 24
 off : (entAt f' (k : Nat)).u = false
 ent : ∀ j : Nat, j ≠ k → entAt f' (j : Nat) = entAt f (j : Nat)
 ino : ∀ n, inoAt f' n = inoAt f n
theorem ent_gone {f f' : Int → List UInt8} {k : Nat} (hk : k < 24) (h0 : (entOf zeroS).u = false) (h : ∀ n, f' n = if n = 17 + (k : Nat) then zeroS else f n) : EntGone f f' k := by
 refine ⟨hk, ?_, fun j hj => ?_, fun n => ?_⟩
 ·unfold entAt
  rw [if_pos (by omega), h, if_pos rfl]; exact h0
 ·unfold entAt
  by_cases hj4 : (0 : Int) ≤ (j : Nat) ∧ ((j : Nat) : Int) < 24
  ·rw [if_pos hj4, if_pos hj4, h, if_neg (by omega)]
  ·rw [if_neg hj4, if_neg hj4]
 ·unfold inoAt
  by_cases hn : 0 ≤ n ∧ n < 16
  ·rw [if_pos hn, if_pos hn, h, if_neg (by omega)]
  ·rw [if_neg hn, if_neg hn]
theorem EntGone.fnd {f f' : Int → List UInt8} {k : Nat} (h : EntGone f f' k) (n : Int) (s : List UInt8) (j : Nat) : fndP f' n s j ↔ j ≠ k ∧ fndP f n s j := by
 by_cases hj : j = k
 ·subst hj
  constructor
  ·rintro ⟨⟨a, _⟩, _⟩; rw [h.off] at a; cases a
  ·rintro ⟨a, _⟩; exact absurd rfl a
 ·unfold fndP stdP
  rw [h.ent j hj, h.ino]
  exact ⟨fun a => ⟨hj, a⟩, fun a => a.2⟩
def NoHide (f : Int → List UInt8) (k : Nat) : Prop := ∀ n s j, RchF f n → (inoAt f n).k = 2 → j < 24 → k < j → fndP f n s k → fndP f n s j → ∃ o, o < k ∧ fndP f n s o
theorem EntGone.step {f f' : Int → List UInt8} {k : Nat} (h : EntGone f f' k) (hh : NoHide f k) {n m : Int} {s : List UInt8} (hr : RchF f n) (hs : stepV f' n s = (m, 0)) : stepV f n s = (m, 0) := by
 obtain ⟨h2, j, hj, rfl⟩ := step_is hs
 rw [h.ino] at h2
 obtain ⟨j1, j2, j3⟩ := fndK_is hj
 obtain ⟨jk, j4⟩ := (h.fnd n s j).1 j2
 rw [h.ent j jk]
 refine step_of h2 (fndK_some j1 j4 fun i hi hp => ?_)
 by_cases hik : i = k
 ·subst hik
  obtain ⟨o, o1, o2⟩ := hh n s j hr h2 j1 hi hp j4
  exact j3 o (by omega) ((h.fnd n s o).2 ⟨by omega, o2⟩)
 ·exact j3 i hi ((h.fnd n s i).2 ⟨hik, hp⟩)
theorem lkp_keep {f f' : Int → List UInt8} (h : ∀ n m s, RchF f n → stepV f' n s = (m, 0) → stepV f n s = (m, 0)) : ∀ (way : List (List UInt8)) (a m : Int), RchF f a → lkp f' way a = (m, 0) → lkp f way a = (m, 0)
 | [], a, m, _, hl => hl
 | s :: t, a, m, hr, hl => by
  rw [lkp] at hl
  by_cases h0 : (stepV f' a s).2 = 0
  ·rw [if_pos h0] at hl
   have h1 : stepV f' a s = ((stepV f' a s).1, 0) := Prod.ext rfl h0
   have h2 := h a _ s hr h1
   rw [lkp, h2, if_pos rfl]
   exact lkp_keep h t _ m (rch_step hr h2) hl
  ·rw [if_neg h0] at hl
   exact absurd (Prod.ext_iff.1 hl).2 h0
structure Kept (f f' : Int → List UInt8) : Prop where
 look : ∀ way m, lkp f' way 0 = (m, 0) → lkp f way 0 = (m, 0)
 kind : ∀ n, (inoAt f' n).k = (inoAt f n).k
 data : ∀ n, ∃ r, dataV f (inoAt f n) = dataV f' (inoAt f' n) ++ r
theorem Kept.refl (f : Int → List UInt8) : Kept f f := ⟨fun _ _ h => h, fun _ => rfl, fun _ => ⟨[], (List.append_nil _).symm⟩⟩
theorem Kept.trans {f g h : Int → List UInt8} (a : Kept f g) (b : Kept g h) : Kept f h := by
 refine ⟨fun w m q => a.look w m (b.look w m q), fun n => (b.kind n).trans (a.kind n), fun n => ?_⟩
 obtain ⟨r, hr⟩ := a.data n
 obtain ⟨t, ht⟩ := b.data n
 exact ⟨t ++ r, by rw [hr, ht, List.append_assoc]⟩
theorem take_4 {A B C E : List UInt8} {z : Nat} (hA : A.length = 32) (hB : B.length = 32) (hC : C.length = 32) : (A ++ B ++ C ++ E).take z = if z ≤ 0 then [] else if z ≤ 32 then A.take z else if z ≤ 64 then (A ++ B).take z else if z ≤ 96 then (A ++ B ++ C).take z else (A ++ B ++ C ++ E).take z := by
 split
 ·have : z = 0 := by omega
  subst this; rfl
 ·split
  ·rw [List.append_assoc, List.append_assoc, List.take_append_of_le_length (by omega)]
  ·split
   ·rw [List.append_assoc, List.take_append_of_le_length (by rw [List.length_append]; omega)]
   ·split
    ·rw [List.take_append_of_le_length (by rw [List.length_append, List.length_append]; omega)]
    ·rfl
theorem data_same {f f' : Int → List UInt8} (hl : ∀ n, (f n).length = 32) (hl' : ∀ n, (f' n).length = 32) (h : ∀ n, 41 ≤ n → n < 65 → f' n = f n) {x : Ino} (hx : RI x) : dataV f' x = dataV f x := by
 unfold dataV
 rcases hx with ⟨_, hz, _⟩ | ⟨_, h0, h1, a1, _, a2, _, a3, _, a4, _⟩
 ·rw [hz]; rfl
 ·rw [take_4 (hl' _) (hl' _) (hl' _), take_4 (hl _) (hl _) (hl _)]
  split
  ·rfl
  ·have e1 := h (40 + x.b0) (by have := a1 (by omega); omega) (by have := a1 (by omega); omega)
   rw [e1]
   split
   ·rfl
   ·have e2 := h (40 + x.b1) (by have := a2 (by omega); omega) (by have := a2 (by omega); omega)
    rw [e2]
    split
    ·rfl
    ·have e3 := h (40 + x.b2) (by have := a3 (by omega); omega) (by have := a3 (by omega); omega)
     rw [e3]
     split
     ·rfl
     ·have e4 := h (40 + x.b3) (by have := a4 (by omega); omega) (by have := a4 (by omega); omega)
      rw [e4]
theorem gone_kept {f f' : Int → List UInt8} {k : Nat} (hk : k < 24) (h0 : (entOf zeroS).u = false) (hl : ∀ n, (f n).length = 32) (hl' : ∀ n, (f' n).length = 32) (hR : ∀ n, RI (inoAt f n)) (h : ∀ n, f' n = if n = 17 + (k : Nat) then zeroS else f n) (hh : NoHide f k) : Kept f f' := by
 have hg := ent_gone hk h0 h
 refine ⟨fun way m q => lkp_keep (fun n m s hr hs => hg.step hh hr hs) way 0 m ⟨[], rfl⟩ q, fun n => by rw [hg.ino], fun n => ⟨[], ?_⟩⟩
 rw [List.append_nil, hg.ino]
 refine (data_same hl hl' (fun q h1 h2 => ?_) (hR n)).symm
 rw [h, if_neg (by omega)]
theorem cut_kept {f f' : Int → List UInt8} {n : Nat} {x : Ino} (hn : n < 16) (hl : ∀ n, (f n).length = 32) (hl' : ∀ n, (f' n).length = 32) (hR : ∀ n, RI (inoAt f n)) (h : ∀ q, f' q = if q = 1 + (n : Nat) then f' (1 + (n : Nat)) else f q)
  (hx : inoAt f' (n : Nat) = x) (hk : x.k = (inoAt f (n : Nat)).k) (hd : ∃ r, dataV f (inoAt f (n : Nat)) = dataV f x ++ r) (hRx : RI x) : Kept f f' := by
 have hi : ∀ q : Int, q ≠ (n : Nat) → inoAt f' q = inoAt f q := fun q hq => by
  unfold inoAt
  by_cases hb : 0 ≤ q ∧ q < 16
  ·rw [if_pos hb, if_pos hb, h (1 + q), if_neg (by omega)]
  ·rw [if_neg hb, if_neg hb]
 have hkk : ∀ q : Int, (inoAt f' q).k = (inoAt f q).k := fun q => by
  by_cases hq : q = (n : Nat)
  ·rw [hq, hx, hk]
  ·rw [hi q hq]
 have he : ∀ j : Nat, entAt f' (j : Nat) = entAt f (j : Nat) := fun j => by
  unfold entAt
  by_cases hj4 : (0 : Int) ≤ (j : Nat) ∧ ((j : Nat) : Int) < 24
  ·rw [if_pos hj4, if_pos hj4, h (17 + (j : Nat)), if_neg (by omega)]
  ·rw [if_neg hj4, if_neg hj4]
 have hfn : ∀ p s, fndK f' p s = fndK f p s := fun p s => by
  unfold fndK
  congr 1
  funext j
  refine decide_eq_decide.2 ?_
  unfold fndP stdP
  rw [he, hkk]
 have hst : ∀ p s, stepV f' p s = stepV f p s := fun p s => by
  unfold stepV
  rw [hkk, hfn]
  cases fndK f p s with
  | none => rfl
  | some j => dsimp only; rw [he]
 refine ⟨fun way m q => lkp_keep (fun a b s _ hs => by rw [← hst]; exact hs) way 0 m ⟨[], rfl⟩ q, hkk, fun q => ?_⟩
 have hds : ∀ y, RI y → dataV f' y = dataV f y := fun y hy => data_same hl hl' (fun q h1 h2 => by rw [h q, if_neg (by omega)]) hy
 by_cases hq : q = (n : Nat)
 ·rw [hq, hx, hds x hRx]; exact hd
 ·rw [hi q hq, hds _ (hR q)]; exact ⟨[], (List.append_nil _).symm⟩
def OneWay (f : Int → List UInt8) : Prop := ∀ i j : Nat, i < 24 → j < 24 → (entAt f (i : Nat)).u = true → (entAt f (j : Nat)).u = true → (entAt f (i : Nat)).t = (entAt f (j : Nat)).t → i = j
theorem lkp_snoc {f : Int → List UInt8} : ∀ {w : List (List UInt8)} {s : List UInt8} {a m : Int}, lkp f (w ++ [s]) a = (m, 0) → ∃ n, lkp f w a = (n, 0) ∧ stepV f n s = (m, 0)
 | [], s, a, m, h => by
  rw [List.nil_append, lkp] at h
  by_cases h0 : (stepV f a s).2 = 0
  ·rw [if_pos h0, lkp] at h
   exact ⟨a, rfl, Prod.ext (Prod.ext_iff.1 h).1 h0⟩
  ·rw [if_neg h0] at h; exact absurd (Prod.ext_iff.1 h).2 h0
 | t :: w, s, a, m, h => by
  rw [List.cons_append, lkp] at h
  by_cases h0 : (stepV f a t).2 = 0
  ·rw [if_pos h0] at h
   obtain ⟨n, h1, h2⟩ := lkp_snoc h
   exact ⟨n, by rw [lkp, if_pos h0]; exact h1, h2⟩
  ·rw [if_neg h0] at h; exact absurd (Prod.ext_iff.1 h).2 h0
theorem way_one {f : Int → List UInt8} (h : OneWay f) : ∀ (q : Nat) (a b : List (List UInt8)) (m : Int), a.length ≤ q → lkp f a 0 = (m, 0) → lkp f b 0 = (m, 0) → (∀ j : Nat, j < 24 → (entAt f (j : Nat)).u = true → 1 ≤ (entAt f (j : Nat)).t) → a = b := by
 intro q
 induction q with
 | zero =>
  intro a b m ha h1 h2 ht
  have : a = [] := List.length_eq_zero_iff.1 (by omega)
  subst this
  rcases List.eq_nil_or_concat b with rfl | ⟨b', s, rfl⟩
  ·rfl
  ·rw [List.concat_eq_append] at h2
   obtain ⟨n, _, h3⟩ := lkp_snoc h2
   obtain ⟨_, j, hj, e⟩ := step_is h3
   have hp := (fndK_is hj)
   have h4 := ht j hp.1 hp.2.1.1.1
   have h5 : (0 : Int) = m := (Prod.ext_iff.1 h1).1
   omega
 | succ q ih =>
  intro a b m ha h1 h2 ht
  rcases List.eq_nil_or_concat a with rfl | ⟨a', s, rfl⟩
  ·rcases List.eq_nil_or_concat b with rfl | ⟨b', s, rfl⟩
   ·rfl
   ·rw [List.concat_eq_append] at h2
    obtain ⟨n, _, h3⟩ := lkp_snoc h2
    obtain ⟨_, j, hj, e⟩ := step_is h3
    have hp := (fndK_is hj)
    have h4 := ht j hp.1 hp.2.1.1.1
    have h5 : (0 : Int) = m := (Prod.ext_iff.1 h1).1
    omega
  ·rw [List.concat_eq_append] at h1 ha ⊢
   obtain ⟨n, h3, h4⟩ := lkp_snoc h1
   obtain ⟨_, j, hj, e⟩ := step_is h4
   have hp := (fndK_is hj)
   rcases List.eq_nil_or_concat b with rfl | ⟨b', s', rfl⟩
   ·have h4 := ht j hp.1 hp.2.1.1.1
    have h5 : (0 : Int) = m := (Prod.ext_iff.1 h2).1
    omega
   ·rw [List.concat_eq_append] at h2 ⊢
    obtain ⟨n', h3', h4'⟩ := lkp_snoc h2
    obtain ⟨_, j', hj', e'⟩ := step_is h4'
    have hp' := (fndK_is hj')
    obtain rfl := h j j' hp.1 hp'.1 hp.2.1.1.1 hp'.2.1.1.1 (e.symm.trans e')
    have hs : s = s' := hp.2.1.2.symm.trans hp'.2.1.2
    have hn : n = n' := hp.2.1.1.2.1.symm.trans hp'.2.1.1.2.1
    subst hs hn
    rw [ih a' b' n (by rw [List.length_append] at ha; simp at ha; omega) h3 h3' ht]
theorem nodup_le : ∀ (n : Nat) (l : List Nat), l.Nodup → (∀ x ∈ l, x < n) → l.length ≤ n
 | 0, l, _, h => by
  cases l with
  | nil => exact Nat.le_refl _
  | cons a t => exact absurd (h a List.mem_cons_self) (by omega)
 | n + 1, l, hd, h => by
  have h1 := nodup_le n (l.erase n) (hd.erase n) fun x hx => by
   have h2 := h x (List.mem_of_mem_erase hx)
   have h3 : x ≠ n := fun e => by rw [e] at hx; exact (List.Nodup.not_mem_erase hd) hx
   omega
  by_cases hn : n ∈ l
  ·rw [List.length_erase_of_mem hn] at h1; omega
  ·rw [List.erase_of_not_mem hn] at h1; omega
theorem not_befN_self : ∀ a : List (List UInt8), ¬ befN a a = true
 | [], h => by simp [befN] at h
 | s :: a, h => by rw [befN, if_pos rfl] at h; exact not_befN_self a h
theorem tree_few {f : Int → List UInt8} {t : List Nod × Bool} (hT : TreeOK f t) (h : OneWay f) (hr : ∀ j : Nat, j < 24 → (entAt f (j : Nat)).u = true → 1 ≤ (entAt f (j : Nat)).t ∧ (entAt f (j : Nat)).t < 16) : t.2 = true := by
 obtain ⟨t1, t2, t3, t4, _⟩ := hT
 cases hb : t.2 with
 | true => rfl
 | false =>
  exfalso
  have h64 := t2 hb
  have hp : (t.1.map fun x => ((lookP f x.p).1).toNat).Nodup := by
   refine List.pairwise_map.2 (List.Pairwise.imp_of_mem ?_ t4)
   intro x y hx hy hxy e
   obtain ⟨m, hm, _⟩ := t3 x hx
   obtain ⟨m', hm', _⟩ := t3 y hy
   have way : ∀ {p : List UInt8} {m : Int}, lookP f p = (m, 0) → (splitP p).2 = 0 ∧ lkp f (splitP p).1 0 = (m, 0) := fun {p m} hl => by
    unfold lookP at hl
    by_cases q : (splitP p).2 = 0
    ·rw [if_pos q] at hl; exact ⟨q, hl⟩
    ·rw [if_neg q] at hl; exact absurd (Prod.ext_iff.1 hl).2 q
   have pos : ∀ {w : List (List UInt8)} {m : Int}, lkp f w 0 = (m, 0) → 0 ≤ m := fun {w m} hl => by
    rcases List.eq_nil_or_concat w with rfl | ⟨w', s, rfl⟩
    ·have : (0 : Int) = m := (Prod.ext_iff.1 hl).1
     omega
    ·rw [List.concat_eq_append] at hl
     obtain ⟨n, _, h3⟩ := lkp_snoc hl
     obtain ⟨_, j, hj, e⟩ := step_is h3
     have hp := fndK_is hj
     have := (hr j hp.1 hp.2.1.1.1).1
     omega
   obtain ⟨a1, a2⟩ := way hm
   obtain ⟨b1, b2⟩ := way hm'
   have p1 := pos a2
   have p2 := pos b2
   rw [hm, hm'] at e
   have em : m = m' := by dsimp only at e; omega
   subst em
   have ew := way_one h _ _ _ m (Nat.le_refl _) a2 b2 fun j hj hu => (hr j hj hu).1
   have exy : x.p = y.p := by rw [← join_splitP a1, ← join_splitP b1, ew]
   rw [exy] at hxy
   exact not_befN_self _ hxy
  have hlt : ∀ n ∈ (t.1.map fun x => ((lookP f x.p).1).toNat), n < 16 := by
   intro n hn
   obtain ⟨x, hx, rfl⟩ := List.mem_map.1 hn
   obtain ⟨m, hm, _, _, _, hne⟩ := t3 x hx
   unfold lookP at hm ⊢
   by_cases q : (splitP x.p).2 = 0
   ·rw [if_pos q] at hm ⊢
    rcases List.eq_nil_or_concat (splitP x.p).1 with e | ⟨w', s, e⟩
    ·rw [e]; show (0 : Int).toNat < 16; decide
    ·rw [e, List.concat_eq_append] at hm ⊢
     rw [hm]
     obtain ⟨n, _, h3⟩ := lkp_snoc hm
     obtain ⟨_, j, hj, e⟩ := step_is h3
     have hp := fndK_is hj
     have := hr j hp.1 hp.2.1.1.1
     dsimp only; omega
   ·rw [if_neg q] at hm; exact absurd (Prod.ext_iff.1 hm).2 q
  have := nodup_le 16 _ hp hlt
  rw [List.length_map] at this
  omega
end Go.Proofs.YtmfokpfddponjaaGreatDoor
namespace Go.Proofs.YtmfokpfddponjaaGreatDoor
open Go.Sy
theorem joinP_len : ∀ (l : List (List UInt8)), (∀ s ∈ l, nameB s = true) → (joinP l).length ≤ 9 * l.length
 | [], _ => Nat.le_refl _
 | s :: l, h => by
  have h1 := h s List.mem_cons_self
  have h2 := joinP_len l fun t ht => h t (List.mem_cons_of_mem _ ht)
  have h3 : s.length ≤ 8 := by
   unfold nameB at h1
   rw [Bool.and_eq_true] at h1
   exact (of_decide_eq_true h1.1).2.1
  have e : joinP (s :: l) = (47 :: s) ++ joinP l := rfl
  rw [e, List.length_append, List.length_cons, List.length_cons]
  omega
theorem look_len {f : Int → List UInt8} {p : List UInt8} {m : Int} (h : lookP f p = (m, 0)) : p.length ≤ 100000 := by
 have h0 : (splitP p).2 = 0 := by
  unfold lookP at h
  by_cases q : (splitP p).2 = 0
  ·exact q
  ·rw [if_neg q] at h; exact (Prod.ext_iff.1 h).2
 have e := join_splitP h0
 have hn := splitP_name p
 rw [← e]
 unfold joinR
 split
 ·decide
 ·have := joinP_len (splitP p).1 (by simpa using hn.2.1)
  omega
theorem callP_id {P : Program} {f : Nat} {args : List AV} {K : AV → Prop} (h : CallP P f args K) : CallP P f args K := h
structure NodOK (f : Int → List UInt8) (x : Nod) (m : Int) : Prop where
 look : lookP f x.p = (m, 0)
 kind : (inoAt f m).k = 1 ∧ x.d = false ∨ (inoAt f m).k = 2 ∧ x.d = true
 data : x.x = dataV f (inoAt f m)
theorem nod_ok {f : Int → List UInt8} (x : Nod) (h : ∃ m : Int, lookP f x.p = (m, 0) ∧ x.d = ((inoAt f m).k == 2) ∧ (inoAt f m).k ≠ 0 ∧ x.x = dataV f (inoAt f m) ∧ x.p ≠ [47]) : ∃ m, NodOK f x m := by
 obtain ⟨m, h1, h2, h3, h4, _⟩ := h
 refine ⟨m, h1, ?_, h4⟩
 have hr := inoAt_RI f m
 have hk : (inoAt f m).k = 1 ∨ (inoAt f m).k = 2 := by
  rcases hr with ⟨h | h, _⟩ | ⟨h, _⟩
  ·exact absurd h h3
  ·exact .inr h
  ·exact .inl h
 rcases hk with hk | hk
 ·left; rw [h2, hk]; exact ⟨rfl, rfl⟩
 ·right; rw [h2, hk]; exact ⟨rfl, rfl⟩
end Go.Proofs.YtmfokpfddponjaaGreatDoor
namespace Go.Proofs.YtmfokpfddponjaaGreatDoor
open Go.Sy
def safV (d : Option Dk) : List (List UInt8) := match d with
 | none => []
 | some dk => dk.safe
theorem safe_ok (d : Option Dk) (hd : DkOK d) : FnC Tryz.prog 24 [.d (encD d)] (.d (.fs 32 ((safV d).map encS))) := by
 have hn := none_ok d
 cases d with
 | none =>
  have hn : FnC Tryz.prog 39 [.d (.ot (.pointer none))] (.d (.bl true)) := hn
  refine FnC.intro ti_ok Tryz.func24 rfl Tryz.ntmps24 Tryz.call24 rfl (Nat.le_of_ble_eq_true rfl) rfl ?_
  (repeat' ((conv=>whnf);first|with_reducible refine gA ?_|((with_reducible refine callE_id ?_); (refine CallE.con ⟨_, hn, ?_⟩))|(with_reducible first|refine gB ?_|refine gZ (fun x hx hu=>?_)|refine gY (fun x hx=>?_)|refine gE ?_|refine Both.mk ?_ ?_|refine gS (fun h=>?_) (fun h=>?_)|refine Spl.nt ?_|refine Spl.mk (fun h=>?_) (fun h=>?_))))
  rfl
 | some d =>
  obtain ⟨nx, safe, wait, log, ep⟩ := d
  have hlen : safe.length ≤ 65 := hd.2.2.1
  by_cases h0 : safe = []
  ·subst h0
   have hn : FnC Tryz.prog 39 [.d (.fp 6 (encDk ⟨nx, [], wait, log, ep⟩))] (.d (.bl true)) := hn
   refine FnC.intro ti_ok Tryz.func24 rfl Tryz.ntmps24 Tryz.call24 rfl (Nat.le_of_ble_eq_true rfl) rfl ?_
   (repeat' ((conv=>whnf);first|with_reducible refine gA ?_|((with_reducible refine callE_id ?_); (refine CallE.con ⟨_, hn, ?_⟩))|(with_reducible first|refine gB ?_|refine gZ (fun x hx hu=>?_)|refine gY (fun x hx=>?_)|refine gE ?_|refine Both.mk ?_ ?_|refine gS (fun h=>?_) (fun h=>?_)|refine Spl.nt ?_|refine Spl.mk (fun h=>?_) (fun h=>?_))))
   rfl
  ·have hne : (safe.map encS).isEmpty = false := by
    cases safe with
    | nil => exact absurd rfl h0
    | cons => rfl
   have hnb : noneB (some ⟨nx, safe, wait, log, ep⟩) = false := decide_eq_false fun q => h0 (List.length_eq_zero_iff.1 q)
   rw [hnb] at hn
   have hml' : (safe.map encS).length = safe.length := List.length_map ..
   refine FnC.intro ti_ok Tryz.func24 rfl Tryz.ntmps24 Tryz.call24 rfl (Nat.le_of_ble_eq_true rfl) rfl ?_
   (repeat' ((conv=>whnf);first|with_reducible refine gA ?_|((with_reducible refine callE_id ?_); first | (refine CallE.con ⟨_, hn, ?_⟩) | refine CallE.inl ?_) | with_reducible refine CallI.inl ti_ok i22 rfl ?_ | with_reducible refine Spl.no hne ?_|(with_reducible first|refine gB ?_|refine gZ (fun x hx hu=>?_)|refine gY (fun x hx=>?_)|refine gE ?_|refine Both.mk ?_ ?_|refine gS (fun h=>?_) (fun h=>?_)|refine Spl.nt ?_|refine Spl.mk (fun h=>?_) (fun h=>?_))))
   rfl
end Go.Proofs.YtmfokpfddponjaaGreatDoor
namespace Go.Proofs.YtmfokpfddponjaaGreatDoor
open Go.Sy
def mountV (d : Option Dk) : AV := if mntP (imgD d) then .tup [.d (.fp 1 [encD d]), .d (.it .i64 0)] else .tup [.d (.ot (.pointer none)), .d (.it .i64 (if safV d = [] then 1 else 8))]
theorem safV_img (d : Option Dk) : (imgD d).length = (safV d).length := by
 cases d with
 | none => rfl
 | some dk => unfold imgD safV; simp
theorem mount_ok (d : Option Dk) (hd : DkOK d) : FnC Tryz.prog 10 [.d (encD d)] (mountV d) := by
 have hs := safe_ok d hd
 have hm := mounted_ok d hd
 have hl := safV_img d
 have hsl : ((safV d).map encS).length = (safV d).length := List.length_map ..
 unfold mountV
 generalize encD d = E at *
 by_cases h0 : safV d = []
 ·have hn : ¬ mntP (imgD d) := fun h => by
   have := h.1
   rw [hl, h0] at this; cases this
  rw [if_neg hn, if_pos h0]
  rw [h0] at hs
  refine FnC.intro ti_ok Tryz.func10 rfl Tryz.ntmps10 Tryz.call10 rfl (Nat.le_of_ble_eq_true rfl) rfl ?_
  (repeat' ((conv=>whnf);first|with_reducible refine gA ?_|((with_reducible refine callE_id ?_); first | (refine CallE.con ⟨_, hs, ?_⟩))|(with_reducible first|refine gB ?_|refine gZ (fun x hx hu=>?_)|refine gY (fun x hx=>?_)|refine gE ?_|refine Both.mk ?_ ?_|refine gS (fun h=>?_) (fun h=>?_)|refine Spl.nt ?_|refine Spl.mk (fun h=>?_) (fun h=>?_))))
  rfl
 ·have h0' : (safV d).length ≠ 0 := fun q => h0 (List.length_eq_zero_iff.1 q)
  by_cases hp : mntP (imgD d)
  ·rw [if_pos hp]
   rw [decide_eq_true hp] at hm
   refine FnC.introW ti_ok Tryz.func10 rfl Tryz.ntmps10 Tryz.call10 rfl (Nat.le_of_ble_eq_true rfl) rfl ?_
   (repeat' ((conv=>whnf);first|with_reducible refine gA ?_|((with_reducible refine callE_id ?_); first | (refine CallE.con ⟨_, hs, ?_⟩) | (refine CallE.con ⟨_, hm, ?_⟩))|(with_reducible first|refine gB ?_|refine gZ (fun x hx hu=>?_)|refine gY (fun x hx=>?_)|refine gE ?_|refine Both.mk ?_ ?_|refine gS (fun h=>?_) (fun h=>?_)|refine Spl.nt ?_|refine Spl.mk (fun h=>?_) (fun h=>?_))))
   refine ⟨⟨[(2, .d (.fp 1 [E])), (3, .d (.it .i64 0))], [], 1⟩, Wk.frzPL 0 1 [.d E] (by with_unfolding_all exact rfl) (And.intro ⟨_, by with_unfolding_all exact rfl, .inr ⟨[E], by with_unfolding_all exact rfl, rfl, rfl⟩⟩ (And.intro ⟨_, by with_unfolding_all exact rfl, .inl rfl⟩ trivial)) trivial rfl, ?_⟩
   exact rfl
  ·rw [if_neg hp, if_neg h0]
   rw [decide_eq_false hp] at hm
   refine FnC.intro ti_ok Tryz.func10 rfl Tryz.ntmps10 Tryz.call10 rfl (Nat.le_of_ble_eq_true rfl) rfl ?_
   (repeat' ((conv=>whnf);first|with_reducible refine gA ?_|((with_reducible refine callE_id ?_); first | (refine CallE.con ⟨_, hs, ?_⟩) | (refine CallE.con ⟨_, hm, ?_⟩))|(with_reducible first|refine gB ?_|refine gZ (fun x hx hu=>?_)|refine gY (fun x hx=>?_)|refine gE ?_|refine Both.mk ?_ ?_|refine gS (fun h=>?_) (fun h=>?_)|refine Spl.nt ?_|refine Spl.mk (fun h=>?_) (fun h=>?_))))
   rfl
end Go.Proofs.YtmfokpfddponjaaGreatDoor
namespace Go.Proofs.YtmfokpfddponjaaGreatDoor
open Go.Sy
def accD (f : Int → List UInt8) (x : Ino) (k : Nat) : List UInt8 := (dataV f x).take (32 * k)
def blkI (x : Ino) : Nat → Int
 | 0 => x.b0
 | 1 => x.b1
 | 2 => x.b2
 | _ => x.b3
theorem acc_step {f : Int → List UInt8} (hf : ∀ n, (f n).length = 32) (x : Ino) {k m : Nat} (hk : k < 4) (hm : (m : Int) = min 32 (x.z - 32 * (k : Int))) (hz : 32 * (k : Int) < x.z) : accD f x (k + 1) = accD f x k ++ (f (40 + blkI x k)).take m := by
 have hc : ((f (40 + x.b0) ++ f (40 + x.b1) ++ f (40 + x.b2) ++ f (40 + x.b3)).drop (32 * k)).take 32 = f (40 + blkI x k) := by
  have h0 := hf (40 + x.b0)
  have h1 := hf (40 + x.b1)
  have h2 := hf (40 + x.b2)
  have h3 := hf (40 + x.b3)
  have hk' : k = 0 ∨ k = 1 ∨ k = 2 ∨ k = 3 := by omega
  rcases hk' with rfl | rfl | rfl | rfl
  ·show ((f (40 + x.b0) ++ f (40 + x.b1) ++ f (40 + x.b2) ++ f (40 + x.b3)).drop 0).take 32 = f (40 + x.b0)
   rw [List.drop_zero, List.append_assoc, List.append_assoc, List.take_left' h0]
  ·show ((f (40 + x.b0) ++ f (40 + x.b1) ++ f (40 + x.b2) ++ f (40 + x.b3)).drop 32).take 32 = f (40 + x.b1)
   rw [List.append_assoc, List.append_assoc, List.drop_left' h0, List.take_left' h1]
  ·show ((f (40 + x.b0) ++ f (40 + x.b1) ++ f (40 + x.b2) ++ f (40 + x.b3)).drop 64).take 32 = f (40 + x.b2)
   rw [List.append_assoc (f (40 + x.b0) ++ f (40 + x.b1)), List.drop_left' (by rw [List.length_append]; omega), List.take_left' h2]
  ·show ((f (40 + x.b0) ++ f (40 + x.b1) ++ f (40 + x.b2) ++ f (40 + x.b3)).drop 96).take 32 = f (40 + x.b3)
   rw [List.drop_left' (by rw [List.length_append, List.length_append]; omega), List.take_of_length_le (by omega)]
 unfold accD dataV
 generalize f (40 + x.b0) ++ f (40 + x.b1) ++ f (40 + x.b2) ++ f (40 + x.b3) = L at *
 rw [← hc, show 32 * (k + 1) = 32 * k + 32 by omega, List.take_add]
 congr 1
 rw [List.drop_take, List.take_take, List.take_take]
 congr 1
 omega
theorem acc_len (f : Int → List UInt8) (x : Ino) (k : Nat) : (accD f x k).length ≤ 32 * k := by unfold accD; exact List.length_take_le ..
theorem acc_end {f : Int → List UInt8} {x : Ino} {k : Nat} (h : x.z ≤ 32 * (k : Int)) : accD f x k = dataV f x := by
 unfold accD
 refine List.take_of_length_le ?_
 unfold dataV
 rw [List.length_take]; omega
def daA (d : Option Dk) (x : Ino) : Nat → S
 | 0 => ⟨[(0, .d (encD d)), (3, .ptr 0 0), (5, .ptr 1 0), (6, .d (.it .i64 0))], [(0, .cells 6 ((encI x).map .d)), (1, .cells 2 [.d (.ot (.pointer none)), .nl 1]), (2, .tag 1 157)], 3⟩
 | k + 1 => ⟨[(0, .d (encD d)), (3, .ptr 0 0), (5, .ptr 1 0), (6, .d (.it .i64 (32 * (k + 1) : Nat)))], [(0, .cells 6 ((encI x).map .d)), (1, .cells 2 [.ptr 1 0, .ts 1 (bytesD (accD (rdS d) x (k + 1))) 5]), (2, .tag 1 157), (5, .tail 5 true)], 6⟩
theorem sec_ms {s : List UInt8} {m : Nat} (hs : s.length = 32) (hm : m ≤ 32) : MsV 3 32 ((encS s).map AV.d ++ []) (.ms 1 3 0 m 32) (.d (.fs 1 (bytesD (s.take m)))) := by
 refine .inr ⟨1, 0, m, 32, _, rfl, rfl, by omega, by unfold bytesD; rw [List.length_map, List.length_take]; omega, fun y hy => ?_, ?_⟩
 ·obtain ⟨b, _, rfl⟩ := List.mem_map.1 hy
  rfl
 ·rw [bytes_flat', List.drop_zero, Nat.mul_one, List.append_nil]
  unfold encS
  rw [List.map_take, List.map_take]
theorem sec_ms6 {s : List UInt8} {m : Nat} (hs : s.length = 32) (hm : m ≤ 32) : MsV 6 32 ((encS s).map AV.d ++ []) (.ms 1 6 0 m 32) (.d (.fs 1 (bytesD (s.take m)))) := by
 refine .inr ⟨1, 0, m, 32, _, rfl, rfl, by omega, by unfold bytesD; rw [List.length_map, List.length_take]; omega, fun y hy => ?_, ?_⟩
 ·obtain ⟨b, _, rfl⟩ := List.mem_map.1 hy
  rfl
 ·rw [bytes_flat', List.drop_zero, Nat.mul_one, List.append_nil]
  unfold encS
  rw [List.map_take, List.map_take]
theorem cells_d0 {y z : List UInt8} (h : y = z) : Ob.cells 2 [.ptr 1 0, .ts 1 (bytesD y) 5] = Ob.cells 2 [.ptr 1 0, .ts 1 (bytesD z) 5] := by rw [h]
theorem cells_d1 {x y z : List UInt8} (h : x ++ y = z) : Ob.cells 2 [.ptr 1 0, .ts 1 (bytesD x ++ bytesD y) 5] = Ob.cells 2 [.ptr 1 0, .ts 1 (bytesD z) 5] := by rw [← h, bytesD_app]
set_option maxHeartbeats 8000000 in
theorem data_ok (d : Option Dk) (hd : DkOK d) (x : Ino) (hx : RI x) : FnC Tryz.prog 51 [.d (encD d), .dg 6 (encI x)] (.d (.st (dataV (rdS d) x))) := by
 have hr : ∀ b : Int, FnC Tryz.prog 19 [.d (encD d), .d (.it .i64 (41 + b - 1))] (.tup [.dg 32 (encS (rdS d (40 + b))), .d (.it .i64 (rdE d (41 + b - 1)))]) := fun b => by
  have h := read_ok d hd (41 + b - 1)
  rw [show rdS d (40 + b) = rdS d (41 + b - 1) from congrArg _ (by omega)]
  exact h
 have hl := fun n => rdS_len hd n
 have hz : 0 ≤ x.z ∧ x.z ≤ 128 := by
  rcases hx with h | h <;> omega
 have hb : (-1000 ≤ x.b0 ∧ x.b0 ≤ 1000) ∧ (-1000 ≤ x.b1 ∧ x.b1 ≤ 1000) ∧ (-1000 ≤ x.b2 ∧ x.b2 ≤ 1000) ∧ (-1000 ≤ x.b3 ∧ x.b3 ≤ 1000) := by
  rcases hx with h | h
  ·omega
  ·refine ⟨?_, ?_, ?_, ?_⟩ <;> omega
 refine FnC.intro ti_ok Tryz.func51 rfl Tryz.ntmps51 Tryz.call51 rfl (Nat.le_of_ble_eq_true rfl) rfl ?_
 (repeat' ((conv=>whnf);first|with_reducible refine gA ?_|(with_reducible first|refine gB ?_|refine gZ (fun x hx hu=>?_)|refine gY (fun x hx=>?_)|refine gE ?_|refine Both.mk ?_ ?_|refine gS (fun h=>?_) (fun h=>?_)|refine Spl.nt ?_|refine Spl.mk (fun h=>?_) (fun h=>?_))))
 refine loop_rule ti_ok (fun k : Nat => k ≤ 4) (daA d x) (fun k => 4 - k) 0 (Nat.zero_le _) ⟨And.intro rfl (And.intro rfl (And.intro rfl (And.intro rfl trivial))), And.intro rfl (And.intro rfl (And.intro rfl trivial)), rfl⟩ ?_
 intro k hk
 have hal := acc_len (rdS d) x k
 by_cases hkz : 32 * (k : Int) < x.z
 ·have hk4 : k < 4 := by omega
  obtain ⟨m, hm, hm2, hm32⟩ : ∃ m : Nat, (if x.z - ((32 * k : Nat) : Int) < 32 then x.z - ((32 * k : Nat) : Int) else 32) = (m : Int) ∧ (m : Int) = min 32 (x.z - 32 * (k : Int)) ∧ m ≤ 32 := ⟨(if x.z - ((32 * k : Nat) : Int) < 32 then x.z - ((32 * k : Nat) : Int) else 32).toNat, by split <;> omega, by split <;> omega, by split <;> omega⟩
  have hst := acc_step (f := rdS d) hl x hk4 hm2 hkz
  have hlb : (bytesD (accD (rdS d) x k)).length = (accD (rdS d) x k).length := by simp [bytesD]
  have hls := hl (40 + blkI x k)
  have hlt : (bytesD ((rdS d (40 + blkI x k)).take m)).length ≤ 32 := by unfold bytesD; rw [List.length_map, List.length_take]; omega
  have hkc : ((32 * k : Nat) : Int) < x.z := by omega
  match k, hk, hkc, hm, hst, hlb, hls, hlt, hal with
  | 0, hk, hkc, hm, hst, hlb, hls, hlt, hal =>
   have hr0 := hr x.b0
   have hlt2 : ((rdS d (40 + x.b0)).take m).length ≤ 32 := by rw [List.length_take]; omega
   have hlt3 : (bytesD ((rdS d (40 + x.b0)).take m)).length ≤ 32 := hlt
   (repeat' ((conv=>whnf);first|with_reducible refine gA ?_|((with_reducible refine callE_id ?_); refine CallE.con ⟨_, hr0, ?_⟩) | with_reducible refine LetI.eq 0 (by decide +kernel) ?_ | with_reducible refine LetI.eq (m : Int) (by with_unfolding_all exact hm) ?_|(with_reducible first|refine gB ?_|refine gZ (fun x hx hu=>?_)|refine gY (fun x hx=>?_)|refine gE ?_|refine Both.mk ?_ ?_|refine gS (fun h=>?_) (fun h=>?_)|refine Spl.nt ?_|refine Spl.mk (fun h=>?_) (fun h=>?_))))
   refine CallI.wk (τ := ⟨[(32, .d (.fs 1 (bytesD ((rdS d (40 + x.b0)).take m)))), (0, .d (encD d)), (3, .ptr 0 0), (5, .ptr 1 0), (6, .d (.it .i64 0))], [(0, .cells 6 ((encI x).map .d)), (1, .cells 2 [.d (.ot (.pointer none)), .nl 1]), (2, .tag 1 157)], 3⟩) (Wk.frzMsL 3 32 ((encS (rdS d (40 + x.b0))).map AV.d ++ []) rfl (And.intro ⟨_, rfl, sec_ms hls hm32⟩ (And.intro ⟨_, rfl, .inl rfl⟩ (And.intro ⟨_, rfl, .inl rfl⟩ (And.intro ⟨_, rfl, .inl rfl⟩ (And.intro ⟨_, rfl, .inl rfl⟩ trivial))))) (And.intro ⟨rfl, rfl⟩ (And.intro ⟨rfl, rfl⟩ (And.intro ⟨rfl, rfl⟩ (trivial)))) rfl) ⟨_, _, _, _, _, _, rfl, rfl, rfl, rfl⟩ ?_
   (repeat' ((conv=>whnf);first|with_reducible refine gA ?_|with_reducible refine CallI.inl ti_ok i73 rfl ?_ | with_reducible refine CallI.inl ti_ok i97 rfl ?_ | with_reducible refine CallI.ident noEsc (by with_unfolding_all exact rfl) ?_|(with_reducible first|refine gB ?_|refine gZ (fun x hx hu=>?_)|refine gY (fun x hx=>?_)|refine gE ?_|refine Both.mk ?_ ?_|refine gS (fun h=>?_) (fun h=>?_)|refine Spl.nt ?_|refine Spl.mk (fun h=>?_) (fun h=>?_))))
   refine again 1 (by omega) (by dsimp only; omega) (And.intro rfl (And.intro rfl (And.intro rfl (And.intro rfl trivial)))) (And.intro rfl (And.intro (cells_d0 ?_) (And.intro rfl (And.intro rfl trivial)))) rfl
   exact hst.symm
  | 1, hk, hkc, hm, hst, hlb, hls, hlt, hal =>
   have hr0 := hr x.b1
   have hlt2 : ((rdS d (40 + x.b1)).take m).length ≤ 32 := by rw [List.length_take]; omega
   have hlt3 : (bytesD ((rdS d (40 + x.b1)).take m)).length ≤ 32 := hlt
   (repeat' ((conv=>whnf);first|with_reducible refine gA ?_|((with_reducible refine callE_id ?_); refine CallE.con ⟨_, hr0, ?_⟩) | with_reducible refine LetI.eq 1 (by decide +kernel) ?_ | with_reducible refine LetI.eq (m : Int) (by with_unfolding_all exact hm) ?_|(with_reducible first|refine gB ?_|refine gZ (fun x hx hu=>?_)|refine gY (fun x hx=>?_)|refine gE ?_|refine Both.mk ?_ ?_|refine gS (fun h=>?_) (fun h=>?_)|refine Spl.nt ?_|refine Spl.mk (fun h=>?_) (fun h=>?_))))
   refine CallI.wk (τ := ⟨[(32, .d (.fs 1 (bytesD ((rdS d (40 + x.b1)).take m)))), (0, .d (encD d)), (3, .ptr 0 0), (5, .ptr 1 0), (6, .d (.it .i64 (32 * (0 + 1) : Nat)))], [(0, .cells 6 ((encI x).map .d)), (1, .cells 2 [.ptr 1 0, .ts 1 (bytesD (accD (rdS d) x 1)) 5]), (2, .tag 1 157), (5, .tail 5 true)], 6⟩) (Wk.frzMsL 6 32 ((encS (rdS d (40 + x.b1))).map AV.d ++ []) rfl (And.intro ⟨_, rfl, sec_ms6 hls hm32⟩ (And.intro ⟨_, rfl, .inl rfl⟩ (And.intro ⟨_, rfl, .inl rfl⟩ (And.intro ⟨_, rfl, .inl rfl⟩ (And.intro ⟨_, rfl, .inl rfl⟩ trivial))))) (And.intro ⟨rfl, rfl⟩ (And.intro ⟨rfl, rfl⟩ (And.intro ⟨rfl, rfl⟩ (And.intro ⟨rfl, rfl⟩ (trivial))))) rfl) ⟨_, _, _, _, _, _, rfl, rfl, rfl, rfl⟩ ?_
   (repeat' ((conv=>whnf);first|with_reducible refine gA ?_|with_reducible refine CallI.inl ti_ok i73 rfl ?_ | with_reducible refine CallI.inl ti_ok i97 rfl ?_ | with_reducible refine CallI.ident noEsc (by with_unfolding_all exact rfl) ?_|(with_reducible first|refine gB ?_|refine gZ (fun x hx hu=>?_)|refine gY (fun x hx=>?_)|refine gE ?_|refine Both.mk ?_ ?_|refine gS (fun h=>?_) (fun h=>?_)|refine Spl.nt ?_|refine Spl.mk (fun h=>?_) (fun h=>?_))))
   refine again 2 (by omega) (by dsimp only; omega) (And.intro rfl (And.intro rfl (And.intro rfl (And.intro rfl trivial)))) (And.intro rfl (And.intro (cells_d1 ?_) (And.intro rfl (And.intro rfl trivial)))) rfl
   exact hst.symm
  | 2, hk, hkc, hm, hst, hlb, hls, hlt, hal =>
   have hr0 := hr x.b2
   have hlt2 : ((rdS d (40 + x.b2)).take m).length ≤ 32 := by rw [List.length_take]; omega
   have hlt3 : (bytesD ((rdS d (40 + x.b2)).take m)).length ≤ 32 := hlt
   (repeat' ((conv=>whnf);first|with_reducible refine gA ?_|((with_reducible refine callE_id ?_); refine CallE.con ⟨_, hr0, ?_⟩) | with_reducible refine LetI.eq 2 (by decide +kernel) ?_ | with_reducible refine LetI.eq (m : Int) (by with_unfolding_all exact hm) ?_|(with_reducible first|refine gB ?_|refine gZ (fun x hx hu=>?_)|refine gY (fun x hx=>?_)|refine gE ?_|refine Both.mk ?_ ?_|refine gS (fun h=>?_) (fun h=>?_)|refine Spl.nt ?_|refine Spl.mk (fun h=>?_) (fun h=>?_))))
   refine CallI.wk (τ := ⟨[(32, .d (.fs 1 (bytesD ((rdS d (40 + x.b2)).take m)))), (0, .d (encD d)), (3, .ptr 0 0), (5, .ptr 1 0), (6, .d (.it .i64 (32 * (1 + 1) : Nat)))], [(0, .cells 6 ((encI x).map .d)), (1, .cells 2 [.ptr 1 0, .ts 1 (bytesD (accD (rdS d) x 2)) 5]), (2, .tag 1 157), (5, .tail 5 true)], 6⟩) (Wk.frzMsL 6 32 ((encS (rdS d (40 + x.b2))).map AV.d ++ []) rfl (And.intro ⟨_, rfl, sec_ms6 hls hm32⟩ (And.intro ⟨_, rfl, .inl rfl⟩ (And.intro ⟨_, rfl, .inl rfl⟩ (And.intro ⟨_, rfl, .inl rfl⟩ (And.intro ⟨_, rfl, .inl rfl⟩ trivial))))) (And.intro ⟨rfl, rfl⟩ (And.intro ⟨rfl, rfl⟩ (And.intro ⟨rfl, rfl⟩ (And.intro ⟨rfl, rfl⟩ (trivial))))) rfl) ⟨_, _, _, _, _, _, rfl, rfl, rfl, rfl⟩ ?_
   (repeat' ((conv=>whnf);first|with_reducible refine gA ?_|with_reducible refine CallI.inl ti_ok i73 rfl ?_ | with_reducible refine CallI.inl ti_ok i97 rfl ?_ | with_reducible refine CallI.ident noEsc (by with_unfolding_all exact rfl) ?_|(with_reducible first|refine gB ?_|refine gZ (fun x hx hu=>?_)|refine gY (fun x hx=>?_)|refine gE ?_|refine Both.mk ?_ ?_|refine gS (fun h=>?_) (fun h=>?_)|refine Spl.nt ?_|refine Spl.mk (fun h=>?_) (fun h=>?_))))
   refine again 3 (by omega) (by dsimp only; omega) (And.intro rfl (And.intro rfl (And.intro rfl (And.intro rfl trivial)))) (And.intro rfl (And.intro (cells_d1 ?_) (And.intro rfl (And.intro rfl trivial)))) rfl
   exact hst.symm
  | 3, hk, hkc, hm, hst, hlb, hls, hlt, hal =>
   have hr0 := hr x.b3
   have hlt2 : ((rdS d (40 + x.b3)).take m).length ≤ 32 := by rw [List.length_take]; omega
   have hlt3 : (bytesD ((rdS d (40 + x.b3)).take m)).length ≤ 32 := hlt
   (repeat' ((conv=>whnf);first|with_reducible refine gA ?_|((with_reducible refine callE_id ?_); refine CallE.con ⟨_, hr0, ?_⟩) | with_reducible refine LetI.eq 3 (by decide +kernel) ?_ | with_reducible refine LetI.eq (m : Int) (by with_unfolding_all exact hm) ?_|(with_reducible first|refine gB ?_|refine gZ (fun x hx hu=>?_)|refine gY (fun x hx=>?_)|refine gE ?_|refine Both.mk ?_ ?_|refine gS (fun h=>?_) (fun h=>?_)|refine Spl.nt ?_|refine Spl.mk (fun h=>?_) (fun h=>?_))))
   refine CallI.wk (τ := ⟨[(32, .d (.fs 1 (bytesD ((rdS d (40 + x.b3)).take m)))), (0, .d (encD d)), (3, .ptr 0 0), (5, .ptr 1 0), (6, .d (.it .i64 (32 * (2 + 1) : Nat)))], [(0, .cells 6 ((encI x).map .d)), (1, .cells 2 [.ptr 1 0, .ts 1 (bytesD (accD (rdS d) x 3)) 5]), (2, .tag 1 157), (5, .tail 5 true)], 6⟩) (Wk.frzMsL 6 32 ((encS (rdS d (40 + x.b3))).map AV.d ++ []) rfl (And.intro ⟨_, rfl, sec_ms6 hls hm32⟩ (And.intro ⟨_, rfl, .inl rfl⟩ (And.intro ⟨_, rfl, .inl rfl⟩ (And.intro ⟨_, rfl, .inl rfl⟩ (And.intro ⟨_, rfl, .inl rfl⟩ trivial))))) (And.intro ⟨rfl, rfl⟩ (And.intro ⟨rfl, rfl⟩ (And.intro ⟨rfl, rfl⟩ (And.intro ⟨rfl, rfl⟩ (trivial))))) rfl) ⟨_, _, _, _, _, _, rfl, rfl, rfl, rfl⟩ ?_
   (repeat' ((conv=>whnf);first|with_reducible refine gA ?_|with_reducible refine CallI.inl ti_ok i73 rfl ?_ | with_reducible refine CallI.inl ti_ok i97 rfl ?_ | with_reducible refine CallI.ident noEsc (by with_unfolding_all exact rfl) ?_|(with_reducible first|refine gB ?_|refine gZ (fun x hx hu=>?_)|refine gY (fun x hx=>?_)|refine gE ?_|refine Both.mk ?_ ?_|refine gS (fun h=>?_) (fun h=>?_)|refine Spl.nt ?_|refine Spl.mk (fun h=>?_) (fun h=>?_))))
   refine again 4 (by omega) (by dsimp only; omega) (And.intro rfl (And.intro rfl (And.intro rfl (And.intro rfl trivial)))) (And.intro rfl (And.intro (cells_d1 ?_) (And.intro rfl (And.intro rfl trivial)))) rfl
   exact hst.symm
 ·have he := acc_end (f := rdS d) (x := x) (k := k) (by omega)
  have hlb : (bytesD (accD (rdS d) x k)).length = (accD (rdS d) x k).length := by simp [bytesD]
  match k, hk, hkz, he, hlb, hal with
  | 0, hk, hkz, he, hlb, hal =>
   (repeat' ((conv=>whnf);first|with_reducible refine gA ?_|with_reducible refine CallI.inl ti_ok i74 rfl ?_|(with_reducible first|refine gB ?_|refine gZ (fun x hx hu=>?_)|refine gY (fun x hx=>?_)|refine gE ?_|refine Both.mk ?_ ?_|refine gS (fun h=>?_) (fun h=>?_)|refine Spl.nt ?_|refine Spl.mk (fun h=>?_) (fun h=>?_))))
   refine st_eq ?_
   rw [← he]; rfl
  | k + 1, hk, hkz, he, hlb, hal =>
   (repeat' ((conv=>whnf);first|with_reducible refine gA ?_|with_reducible refine CallI.inl ti_ok i74 rfl ?_|(with_reducible first|refine gB ?_|refine gZ (fun x hx hu=>?_)|refine gY (fun x hx=>?_)|refine gE ?_|refine Both.mk ?_ ?_|refine gS (fun h=>?_) (fun h=>?_)|refine Spl.nt ?_|refine Spl.mk (fun h=>?_) (fun h=>?_))))
   refine ⟨accD (rdS d) x (k + 1), ⟨rfl, ?_, by omega⟩, ?_⟩
   ·show ((bytesD (accD (rdS d) x (k + 1))).length : Int) = _; rw [hlb]
   ·rw [he]; rfl
end Go.Proofs.YtmfokpfddponjaaGreatDoor
namespace Go.Proofs.YtmfokpfddponjaaGreatDoor
open Go.Sy
theorem fsnone_ok (E : D) (dk : Dk) (hE : E = encD (some dk)) : FnC Tryz.prog 58 [.d (.fp 1 [E])] (.d (.bl false)) := by
 have hE : E = .fp 6 (encDk dk) := hE
 subst hE
 refine FnC.intro ti_ok Tryz.func58 rfl Tryz.ntmps58 Tryz.call58 rfl (Nat.le_of_ble_eq_true rfl) rfl ?_
 (repeat' ((conv=>whnf);first|with_reducible refine gA ?_|(with_reducible first|refine gB ?_|refine gZ (fun x hx hu=>?_)|refine gY (fun x hx=>?_)|refine gE ?_|refine Both.mk ?_ ?_|refine gS (fun h=>?_) (fun h=>?_)|refine Spl.nt ?_|refine Spl.mk (fun h=>?_) (fun h=>?_))))
 rfl
theorem fsneed_ok (n : Int) (h : 0 ≤ n ∧ n ≤ 1000) : FnC Tryz.prog 31 [.d (.it .i64 n)] (.d (.it .i64 ((n + 31) / 32))) := by
 refine FnC.intro ti_ok Tryz.func31 rfl Tryz.ntmps31 Tryz.call31 rfl (Nat.le_of_ble_eq_true rfl) rfl ?_
 (repeat' ((conv=>whnf);first|with_reducible refine gA ?_|(with_reducible first|refine gB ?_|refine gZ (fun x hx hu=>?_)|refine gY (fun x hx=>?_)|refine gE ?_|refine Both.mk ?_ ?_|refine gS (fun h=>?_) (fun h=>?_)|refine Spl.nt ?_|refine Spl.mk (fun h=>?_) (fun h=>?_))))
 refine it_eq ?_
 omega
theorem fssec_ok (dk : Dk) (hd : DkOK (some dk)) (b : Int) (hb : -1000 ≤ b ∧ b ≤ 1000) : FnC Tryz.prog 32 [.d (.fp 1 [encD (some dk)]), .d (.it .i64 b)] (.dg 32 (encS (rdS (some dk) (40 + b)))) := by
 have h := read_ok (some dk) hd (41 + b - 1)
 rw [show rdS (some dk) (41 + b - 1) = rdS (some dk) (40 + b) from congrArg _ (by omega)] at h
 have hs := rdS_len hd (40 + b)
 have h : FnC Tryz.prog 19 [.d (.fp 6 (encDk dk)), .d (.it .i64 (41 + b - 1))] (.tup [.dg 32 (encS (rdS (some dk) (40 + b))), .d (.it .i64 (rdE (some dk) (41 + b - 1)))]) := h
 show FnC Tryz.prog 32 [.d (.fp 1 [.fp 6 (encDk dk)]), .d (.it .i64 b)] _
 obtain ⟨g, hg⟩ := is32 hs
 rw [hg] at h ⊢
 refine FnC.intro ti_ok Tryz.func32 rfl Tryz.ntmps32 Tryz.call32 rfl (Nat.le_of_ble_eq_true rfl) rfl ?_
 (repeat' ((conv=>whnf);first|with_reducible refine gA ?_|((with_reducible refine callE_id ?_); (refine CallE.con ⟨_, h, ?_⟩))|(with_reducible first|refine gB ?_|refine gZ (fun x hx hu=>?_)|refine gY (fun x hx=>?_)|refine gE ?_|refine Both.mk ?_ ?_|refine gS (fun h=>?_) (fun h=>?_)|refine Spl.nt ?_|refine Spl.mk (fun h=>?_) (fun h=>?_))))
 all_goals rfl
theorem file_ok (dk : Dk) (hd : DkOK (some dk)) (p : List UInt8) (hp : p.length ≤ 100000) (m : Int) (hm : lookP (rdS (some dk)) p = (m, 0)) (h1 : (inoAt (rdS (some dk)) m).k = 1) : FnC Tryz.prog 30 [.d (.fp 1 [encD (some dk)]), .d (.st p)] (.tup [.d (.it .i64 m), .dg 6 (encI (inoAt (rdS (some dk)) m)), .d (.it .i64 0)]) := by
 have hl := lookup_ok (some dk) hd p hp
 have hi := inode_ok (some dk) hd m
 have hn := fsnone_ok (encD (some dk)) dk rfl
 rw [hm] at hl
 have hl : FnC Tryz.prog 12 [.d (encD (some dk)), .d (.st p)] (.tup [.d (.it .i64 m), .d (.it .i64 0)]) := hl
 generalize encD (some dk) = E at *
 generalize inoAt (rdS (some dk)) m = x at *
 obtain ⟨k, z, b0, b1, b2, b3⟩ := x
 have h1 : k = 1 := h1
 subst h1
 refine FnC.intro ti_ok Tryz.func30 rfl Tryz.ntmps30 Tryz.call30 rfl (Nat.le_of_ble_eq_true rfl) rfl ?_
 (repeat' ((conv=>whnf);first|with_reducible refine gA ?_|((with_reducible refine callE_id ?_); first | (refine CallE.con ⟨_, hn, ?_⟩) | (refine CallE.con ⟨_, hl, ?_⟩) | (refine CallE.con ⟨_, hi, ?_⟩))|(with_reducible first|refine gB ?_|refine gZ (fun x hx hu=>?_)|refine gY (fun x hx=>?_)|refine gE ?_|refine Both.mk ?_ ?_|refine gS (fun h=>?_) (fun h=>?_)|refine Spl.nt ?_|refine Spl.mk (fun h=>?_) (fun h=>?_))))
 rfl
end Go.Proofs.YtmfokpfddponjaaGreatDoor
namespace Go.Proofs.YtmfokpfddponjaaGreatDoor
open Go.Sy
def secI (f : Int → List UInt8) (x : Ino) (k : Nat) : List (List UInt8) := [f (40 + x.b0), f (40 + x.b1), f (40 + x.b2), f (40 + x.b3)].take k
def fsA (E : D) (p : List UInt8) (f : Int → List UInt8) (x : Ino) (n : Nat) (k : Nat) : S := ⟨[(0, .d (.fp 1 [E])), (1, .d (.st p)), (7, .ptr 1 0), (9, .ts 32 ((secI f x k).map encS) 3), (28, .ms 1 1 2 n 4), (29, .d (.it .i64 n)), (30, .d (.it .i64 k))], [(1, .cells 6 ((encI x).map .d)), (3, .tail 54 true)], 4⟩
set_option maxHeartbeats 4000000 in
theorem fsread_ok (hga : ∀ (l : List (List UInt8)) (n : Int), (∀ s ∈ l, s.length = 32) → l.length ≤ 4 → 0 ≤ n → n ≤ 32 * (l.length : Int) → FnC Tryz.prog 33 [.d (.fs 32 (l.map encS)), .d (.it .i64 n)] (.tup [.d (.fs 1 (bytesD (l.flatten.take n.toNat))), .d (.bl true)]))
  (dk : Dk) (hd : DkOK (some dk)) (p : List UInt8) (hp : p.length ≤ 100000) (m : Int) (hm : lookP (rdS (some dk)) p = (m, 0)) (h1 : (inoAt (rdS (some dk)) m).k = 1) : FnC Tryz.prog 15 [.d (.fp 1 [encD (some dk)]), .d (.st p)] (.tup [.d (.fs 1 (bytesD (dataV (rdS (some dk)) (inoAt (rdS (some dk)) m)))), .d (.it .i64 0)]) := by
 have hf := file_ok dk hd p hp m hm h1
 have hl := fun n => rdS_len hd n
 have hs := fun b hb => fssec_ok dk hd b hb
 have hx := inoAt_RI (rdS (some dk)) m
 generalize inoAt (rdS (some dk)) m = x at *
 generalize rdS (some dk) = f at *
 generalize encD (some dk) = E at *
 have hz : 0 ≤ x.z ∧ x.z ≤ 128 := by rcases hx with h | h <;> omega
 have hnd := fsneed_ok x.z (by omega)
 obtain ⟨n, hn⟩ : ∃ n : Nat, (x.z + 31) / 32 = (n : Int) := ⟨((x.z + 31) / 32).toNat, by omega⟩
 rw [hn] at hnd
 have hn4 : n ≤ 4 := by omega
 refine FnC.intro ti_ok Tryz.func15 rfl Tryz.ntmps15 Tryz.call15 rfl (Nat.le_of_ble_eq_true rfl) rfl ?_
 (repeat' ((conv=>whnf);first|with_reducible refine gA ?_|((with_reducible refine callE_id ?_); first | (refine CallE.con ⟨_, hf, ?_⟩) | (refine CallE.con ⟨_, hnd, ?_⟩))|(with_reducible first|refine gB ?_|refine gZ (fun x hx hu=>?_)|refine gY (fun x hx=>?_)|refine gE ?_|refine Both.mk ?_ ?_|refine gS (fun h=>?_) (fun h=>?_)|refine Spl.nt ?_|refine Spl.mk (fun h=>?_) (fun h=>?_))))
 refine loop_rule ti_ok (fun k : Nat => k ≤ n) (fsA E p f x n) (fun k => n - k) 0 (Nat.zero_le _) ⟨And.intro rfl (And.intro rfl (And.intro rfl (And.intro rfl (And.intro rfl (And.intro rfl (And.intro rfl trivial)))))), And.intro rfl (And.intro rfl trivial), rfl⟩ ?_
 intro k hk
 have hb : (-1000 ≤ x.b0 ∧ x.b0 ≤ 1000) ∧ (-1000 ≤ x.b1 ∧ x.b1 ≤ 1000) ∧ (-1000 ≤ x.b2 ∧ x.b2 ≤ 1000) ∧ (-1000 ≤ x.b3 ∧ x.b3 ≤ 1000) := by
  rcases hx with h | h
  ·omega
  ·refine ⟨?_, ?_, ?_, ?_⟩ <;> omega
 have hlen : ((secI f x k).map encS).length = k := by unfold secI; rw [List.length_map, List.length_take]; simp only [List.length_cons, List.length_nil]; omega
 have hseq : ∀ j, j < 4 → secI f x (j + 1) = secI f x j ++ [f (40 + blkI x j)] := fun j hj => by
  have hj' : j = 0 ∨ j = 1 ∨ j = 2 ∨ j = 3 := by omega
  rcases hj' with rfl | rfl | rfl | rfl <;> rfl
 rcases Nat.lt_or_ge k n with hkn | hkn
 ·have hst := hseq k (by omega)
  have hls := hl (40 + blkI x k)
  match k, hkn, hlen, hst, hls with
  | 0, hkn, hlen, hst, hls =>
   have h0 := hs x.b0 hb.1
   (repeat' ((conv=>whnf);first|with_reducible refine gA ?_|((with_reducible refine callE_id ?_); first | (refine CallE.con ⟨_, h0, ?_⟩))|(with_reducible first|refine gB ?_|refine gZ (fun x hx hu=>?_)|refine gY (fun x hx=>?_)|refine gE ?_|refine Both.mk ?_ ?_|refine gS (fun h=>?_) (fun h=>?_)|refine Spl.nt ?_|refine Spl.mk (fun h=>?_) (fun h=>?_))))
   refine again 1 (by omega) (by dsimp only; omega) (And.intro rfl (And.intro rfl (And.intro rfl (And.intro (ts_eq ?_) (And.intro rfl (And.intro rfl (And.intro (it_eq (by omega)) trivial))))))) (And.intro rfl (And.intro rfl trivial)) rfl
   rw [hst, List.map_append]
   exact congrArg _ (chunk1 (by rw [encS_len]; exact hls))
  | 1, hkn, hlen, hst, hls =>
   have h0 := hs x.b1 hb.2.1
   (repeat' ((conv=>whnf);first|with_reducible refine gA ?_|((with_reducible refine callE_id ?_); first | (refine CallE.con ⟨_, h0, ?_⟩))|(with_reducible first|refine gB ?_|refine gZ (fun x hx hu=>?_)|refine gY (fun x hx=>?_)|refine gE ?_|refine Both.mk ?_ ?_|refine gS (fun h=>?_) (fun h=>?_)|refine Spl.nt ?_|refine Spl.mk (fun h=>?_) (fun h=>?_))))
   refine again 2 (by omega) (by dsimp only; omega) (And.intro rfl (And.intro rfl (And.intro rfl (And.intro (ts_eq ?_) (And.intro rfl (And.intro rfl (And.intro (it_eq (by omega)) trivial))))))) (And.intro rfl (And.intro rfl trivial)) rfl
   rw [hst, List.map_append]
   exact congrArg _ (chunk1 (by rw [encS_len]; exact hls))
  | 2, hkn, hlen, hst, hls =>
   have h0 := hs x.b2 hb.2.2.1
   (repeat' ((conv=>whnf);first|with_reducible refine gA ?_|((with_reducible refine callE_id ?_); first | (refine CallE.con ⟨_, h0, ?_⟩))|(with_reducible first|refine gB ?_|refine gZ (fun x hx hu=>?_)|refine gY (fun x hx=>?_)|refine gE ?_|refine Both.mk ?_ ?_|refine gS (fun h=>?_) (fun h=>?_)|refine Spl.nt ?_|refine Spl.mk (fun h=>?_) (fun h=>?_))))
   refine again 3 (by omega) (by dsimp only; omega) (And.intro rfl (And.intro rfl (And.intro rfl (And.intro (ts_eq ?_) (And.intro rfl (And.intro rfl (And.intro (it_eq (by omega)) trivial))))))) (And.intro rfl (And.intro rfl trivial)) rfl
   rw [hst, List.map_append]
   exact congrArg _ (chunk1 (by rw [encS_len]; exact hls))
  | 3, hkn, hlen, hst, hls =>
   have h0 := hs x.b3 hb.2.2.2
   (repeat' ((conv=>whnf);first|with_reducible refine gA ?_|((with_reducible refine callE_id ?_); first | (refine CallE.con ⟨_, h0, ?_⟩))|(with_reducible first|refine gB ?_|refine gZ (fun x hx hu=>?_)|refine gY (fun x hx=>?_)|refine gE ?_|refine Both.mk ?_ ?_|refine gS (fun h=>?_) (fun h=>?_)|refine Spl.nt ?_|refine Spl.mk (fun h=>?_) (fun h=>?_))))
   refine again 4 (by omega) (by dsimp only; omega) (And.intro rfl (And.intro rfl (And.intro rfl (And.intro (ts_eq ?_) (And.intro rfl (And.intro rfl (And.intro (it_eq (by omega)) trivial))))))) (And.intro rfl (And.intro rfl trivial)) rfl
   rw [hst, List.map_append]
   exact congrArg _ (chunk1 (by rw [encS_len]; exact hls))
  | k + 4, hkn, hlen, hst, hls => omega
 ·obtain rfl : k = n := by omega
  have hsl : (secI f x k).length = k := by unfold secI; rw [List.length_take]; simp only [List.length_cons, List.length_nil]; omega
  have hg := hga (secI f x k) x.z (fun s hs' => by
   have := List.mem_of_mem_take hs'
   simp only [List.mem_cons, List.not_mem_nil, or_false] at this
   rcases this with rfl | rfl | rfl | rfl <;> exact hl _) (by omega) hz.1 (by omega)
  have hdat : (secI f x k).flatten.take x.z.toNat = dataV f x := by
   have e : [f (40 + x.b0), f (40 + x.b1), f (40 + x.b2), f (40 + x.b3)].flatten = f (40 + x.b0) ++ f (40 + x.b1) ++ f (40 + x.b2) ++ f (40 + x.b3) := by simp
   have h0 := hl (40 + x.b0)
   have h1 := hl (40 + x.b1)
   have h2 := hl (40 + x.b2)
   have h3 := hl (40 + x.b3)
   unfold dataV
   have hk' : k = 0 ∨ k = 1 ∨ k = 2 ∨ k = 3 ∨ k = 4 := by omega
   unfold secI
   rcases hk' with rfl | rfl | rfl | rfl | rfl
   ·have : x.z.toNat = 0 := by omega
    rw [this]; rfl
   ·show ([f (40 + x.b0)].flatten).take _ = _
    rw [List.append_assoc, List.append_assoc, List.take_append_of_le_length (by omega)]
    simp
   ·show ([f (40 + x.b0), f (40 + x.b1)].flatten).take _ = _
    rw [List.append_assoc, List.take_append_of_le_length (by rw [List.length_append]; omega)]
    simp
   ·show ([f (40 + x.b0), f (40 + x.b1), f (40 + x.b2)].flatten).take _ = _
    rw [List.take_append_of_le_length (by rw [List.length_append, List.length_append]; omega)]
    simp
   ·show ([f (40 + x.b0), f (40 + x.b1), f (40 + x.b2), f (40 + x.b3)].flatten).take _ = _
    rw [e]
  rw [hdat] at hg
  generalize dataV f x = L at *
  have hll : L.length ≤ 128 := by
   rw [← hdat, List.length_take]; omega
  (repeat' ((conv=>whnf);first|with_reducible refine gA ?_|((with_reducible refine callE_id ?_); first | (refine CallE.con ⟨_, hg, ?_⟩) | refine CallE.inl ?_) | with_reducible refine CallI.inl ti_ok i34 rfl ?_|(with_reducible first|refine gB ?_|refine gZ (fun x hx hu=>?_)|refine gY (fun x hx=>?_)|refine gE ?_|refine Both.mk ?_ ?_|refine gS (fun h=>?_) (fun h=>?_)|refine Spl.nt ?_|refine Spl.mk (fun h=>?_) (fun h=>?_))))
  all_goals first | rfl | (obtain rfl : L = [] := (by cases L with | nil => rfl | cons => (rename_i h _; cases h)); rfl) | (cases L with | nil => rfl | cons => (exfalso; simp [bytesD] at *))
end Go.Proofs.YtmfokpfddponjaaGreatDoor
namespace Go.Proofs.YtmfokpfddponjaaGreatDoor
open Go.RowKit
def WriteC : Prop := ∀ (B b : Nat) (bs cs : List Value) (a : Addr) (n c : Nat) (w : World), Lib.IsBuffer 130 5 B b bs w → B ≤ w.heap.size → (∀ v ∈ bs, v.oneCell' = true) → cs.length = n → a.block < B →
 (∀ j v, cs[j]? = some v → w.cell? (a.add j) = some v) → (∀ v ∈ cs, v.oneCell' = true) → bs.length + n ≤ 140737488355328 →
 Calls Tryz.prog 59 #[.pointer (some ⟨b, 0, none⟩), .slice (some a) n c] w fun e w' => e = .returned (.tuple #[.int .i64 n, .nilIface]) ∧ Lib.IsBuffer 130 5 B b (bs ++ cs) w' ∧ Below B w w'
def BytesC : Prop := ∀ (B b : Nat) (bs : List Value) (w : World), Lib.IsBuffer 130 5 B b bs w →
 Calls Tryz.prog 60 #[.pointer (some ⟨b, 0, none⟩)] w fun e w' => ∃ v, e = .returned v ∧ w'.ownsRow B 5 1 v bs.length bs ∧ ∃ n, w' = w.drewN n
theorem slot_cells (w : World) (bk off : Nat) (xs : List UInt8) (k len : Nat) (hk : k < len) (hx : xs.length = 32 * len) (hc : ∀ j, j < 32 * len → w.cell? ⟨bk, off + j, none⟩ = some (.int .u8 ((xs.getD j 0).toNat : Int))) :
  ∀ j v, (Lib.byteCells ((xs.drop (32 * k)).take 32))[j]? = some v → w.cell? ((⟨bk, off + k * 32, none⟩ : Addr).add j) = some v := by
 intro j v hj
 have hl : ((xs.drop (32 * k)).take 32).length = 32 := by rw [List.length_take, List.length_drop]; omega
 have hjl : j < 32 := by
  have h5 := (List.getElem?_eq_some_iff.1 hj).1
  rw [Lib.byteCells_length, hl] at h5; exact h5
 have h1 := hc (32 * k + j) (by omega)
 rw [Lib.addr_add, show off + k * 32 + j = off + (32 * k + j) by omega, h1, ← hj]
 unfold Lib.byteCells
 rw [List.getElem?_map, List.getElem?_take, if_pos hjl, List.getElem?_drop, List.getD_eq_getElem?_getD, List.getElem?_eq_getElem (by omega)]
 rfl
set_option maxRecDepth 100000 in
theorem slice_54 (a : Option Addr) (l c m : Nat) (hm : m ≤ c) (w : World) : (Instr.slice 48 (.slice a l c) none (some (.int .i64 (m : Int))) none).run Tryz.prog w = .ok (.slice a m c) w := by
 refine (run_slice_h (P := Tryz.prog) w 48 a l c Tryz.underlying48 .i64 m (by omega) (by omega)).trans ?_
 show ((sizeOf 5).run Tryz.prog w).andThen _ = _
 rw [Tryz.sizeOf5]
 cases a <;> simp [Result.andThen, sliced, Addr.add]
set_option maxHeartbeats 8000000 in
set_option maxRecDepth 1000000 in
theorem gather_pos (hW : WriteC) (hB : BytesC) (ad : Option Addr) (bk off len cap : Nat) (xs : List UInt8) (n : Nat) (w : World) (hlen : len ≤ 1000) (hx : xs.length = 32 * len) (hn : n ≤ 32 * len)
  (had : 0 < len → ad = some ⟨bk, off, none⟩ ∧ bk < w.heap.size) (hc : ∀ j, j < 32 * len → w.cell? ⟨bk, off + j, none⟩ = some (.int .u8 ((xs.getD j 0).toNat : Int))) (Q : Ending → World → Prop)
  (hC : ∀ (w3 : World) (a : Option Addr) (cap : Nat), Below w.heap.size w w3 → w3.ownsRow w.heap.size 5 1 (.slice a (32 * len) cap) (32 * len) (Lib.byteCells xs) → n ≤ cap →
   Calls Tryz.prog 34 #[.slice a n cap] w3 fun e w' => ∃ r, e = .returned r ∧ Q (.returned (.tuple #[r, .bool true])) w') :
  Calls Tryz.prog 33 #[.slice ad len cap, .int .i64 n] w Q := by
 have hn32 : ¬ (32 * (len : Int) < (n : Int)) := by omega
 go_enter Tryz.func33, Tryz.ntmps33
 go_wp2
 go_loopw [19] (fun i wr => ∃ k : Nat, k ≤ len ∧ i = .int .i64 k ∧ Lib.IsBuffer 130 5 w.heap.size w.heap.size (Lib.byteCells (xs.take (32 * k))) wr ∧ Below w.heap.size w wr) (fun i _ => len - (intOf i).toNat)
 case atStart => exact ⟨0, Nat.zero_le _, rfl, Lib.fresh_isBuffer 130 5 w, (Below.refl _ w).alloc (Nat.le_refl _) _⟩
 case round =>
  obtain ⟨k, hk, rfl, hI, hb⟩ := hrel
  rcases Nat.lt_or_ge k len with hkl | hkl
  ·obtain ⟨rfl, hbk⟩ := had (by omega)
   have hl : ((xs.drop (32 * k)).take 32).length = 32 := by rw [List.length_take, List.length_drop]; omega
   have hsl := slot_cells wr bk off xs k len hkl hx (fun j hj => (hb.cell (p := ⟨bk, off + j, none⟩) hbk).trans (hc j hj))
   have hk0 : (Lib.byteCells (xs.take (32 * k))).length + 32 ≤ 140737488355328 := by rw [Lib.byteCells_length, List.length_take]; omega
   have hcall := hW w.heap.size w.heap.size (Lib.byteCells (xs.take (32 * k))) (Lib.byteCells ((xs.drop (32 * k)).take 32)) ⟨bk, off + k * 32, none⟩ 32 32 wr hI hb.size (Lib.byteCells_one _) (by rw [Lib.byteCells_length, hl]) hbk hsl (Lib.byteCells_one _) hk0
   clear hsl
   go_wp2_with (go_at_call 59; refine hcall.mono ?_; rintro e W1 ⟨rfl, h1, b1⟩)
   refine ⟨⟨k + 1, by omega, by simp, ?_, hb.trans b1⟩, by simp [intOf]; omega⟩
   rw [← Lib.byteCells_append, ← List.take_add] at h1
   rwa [show 32 * (k + 1) = 32 * k + 32 by omega]
  ·obtain rfl : k = len := by omega
   rw [List.take_of_length_le (by omega)] at hI
   have hcall := hB w.heap.size w.heap.size (Lib.byteCells xs) wr hI
   have hbl : (Lib.byteCells xs).length = 32 * k := by rw [Lib.byteCells_length, hx]
   rw [hbl] at hcall
   go_wp2_with (go_at_call 60; refine hcall.mono ?_; rintro e W1 ⟨v, rfl, ho, q, rfl⟩)
   have hb' : Below w.heap.size w (wr.drewN q) := hb.trans ⟨rfl, rfl, rfl, Nat.le_refl _, fun _ _ => rfl⟩
   rcases ho with ⟨ho1, ⟨rfl, h0⟩ | ⟨gb, c, cur, rfl, ho2, ho3, ho4, ho5, ho6, ho7⟩⟩
   ·have hn0 : n = 0 := by omega
    subst hn0
    have hcl := hC (wr.drewN q) none 0 hb' ⟨ho1, .inl ⟨by rw [h0], h0⟩⟩ (Nat.le_refl _)
    have hs5 : ∀ w', (Instr.slice 48 (.slice none 0 0) none (some (.int .i64 ((0 : Nat) : Int))) none).run Tryz.prog w' = .ok (.slice none 0 0) w' := slice_54 none 0 0 0 (Nat.le_refl _)
    go_wp2
    rw [hs5]
    go_wp2_with (go_at_call 34; refine hcl.mono ?_; rintro e W2 ⟨r, rfl, hq⟩)
    go_wp2
    exact hq
   ·have hcl := hC (wr.drewN q) (some ⟨gb, 0, none⟩) c hb' ⟨ho1, .inr ⟨gb, c, cur, rfl, ho2, ho3, ho4, ho5, ho6, ho7⟩⟩ (by omega)
    have hnc : n ≤ c := by omega
    have hs5 : ∀ w', (Instr.slice 48 (.slice (some ⟨gb, 0, none⟩) (32 * k) c) none (some (.int .i64 (n : Int))) none).run Tryz.prog w' = .ok (.slice (some ⟨gb, 0, none⟩) n c) w' := slice_54 (some ⟨gb, 0, none⟩) (32 * k) c n hnc
    go_wp2
    rw [hs5]
    go_wp2_with (go_at_call 34; refine hcl.mono ?_; rintro e W2 ⟨r, rfl, hq⟩)
    go_wp2
    exact hq
end Go.Proofs.YtmfokpfddponjaaGreatDoor
namespace Go.Proofs.YtmfokpfddponjaaGreatDoor
open Go.Sy
theorem writeC : WriteC := fun B b bs cs a n c w h hBw h1 hn haB hsrc h1c hlim =>
 (Tryz.Buffer_Write_k B b bs cs a n c w h hBw h1 hn haB hsrc h1c hlim).mono fun e w' ⟨a1, a2, a3, _⟩ => ⟨a1, a2, a3⟩
theorem bytesC : BytesC := fun B b bs w h => Tryz.Buffer_Bytes B b bs w h
theorem clone_ok (L : List UInt8) (hL : L.length ≤ 100000) : FnC Tryz.prog 34 [.d (.fs 1 (bytesD L))] (.d (.fs 1 (bytesD L))) := by
 have hl : (bytesD L).length = L.length := bytesD_l L
 by_cases h0 : L = []
 ·subst h0
  refine FnC.intro ti_ok Tryz.func34 rfl Tryz.ntmps34 Tryz.call34 rfl (Nat.le_of_ble_eq_true rfl) rfl ?_
  (repeat' ((conv=>whnf);first|with_reducible refine gA ?_|(with_reducible first|refine gB ?_|refine gZ (fun x hx hu=>?_)|refine gY (fun x hx=>?_)|refine gE ?_|refine Both.mk ?_ ?_|refine gS (fun h=>?_) (fun h=>?_)|refine Spl.nt ?_|refine Spl.mk (fun h=>?_) (fun h=>?_))))
  all_goals exact rfl
 ·have hne : (bytesD L).isEmpty = false := by cases L with | nil => exact absurd rfl h0 | cons => rfl
  refine FnC.intro ti_ok Tryz.func34 rfl Tryz.ntmps34 Tryz.call34 rfl (Nat.le_of_ble_eq_true rfl) rfl ?_
  (repeat' ((conv=>whnf);first|with_reducible refine gA ?_|with_reducible refine Spl.no hne ?_|(with_reducible first|refine gB ?_|refine gZ (fun x hx hu=>?_)|refine gY (fun x hx=>?_)|refine gE ?_|refine Both.mk ?_ ?_|refine gS (fun h=>?_) (fun h=>?_)|refine Spl.nt ?_|refine Spl.mk (fun h=>?_) (fun h=>?_))))
  exact rfl
theorem secs_flat (l : List (List UInt8)) : (l.map encS).flatten = encS l.flatten := by
 unfold encS; rw [List.map_flatten]
theorem secs_len {l : List (List UInt8)} (h : ∀ s ∈ l, s.length = 32) : l.flatten.length = 32 * l.length := by
 induction l with
 | nil => rfl
 | cons a t ih => rw [List.flatten_cons, List.length_append, h a List.mem_cons_self, ih fun s hs => h s (List.mem_cons_of_mem _ hs), List.length_cons]; omega
theorem step_calls {vs : Array Value} {w : World} {Q : Ending → World → Prop} (h : Step Tryz.prog 34 vs w Q) : Calls Tryz.prog 34 vs w Q := by
 rcases h with ⟨_, h⟩ | ⟨v, w', h, _⟩
 ·exact h
 ·rw [Tryz.call34] at h; cases h
def rowF (F : Nat → Nat → Option Value) (gb : Nat) (xs : List UInt8) : Nat → Nat → Option Value := fun b o => if b = gb then (if o < xs.length then some (.int .u8 ((xs.getD o 0).toNat : Int)) else none) else F b o
theorem row_dr (F : Nat → Nat → Option Value) (gb : Nat) (xs : List UInt8) (n cap : Nat) (hn : n ≤ xs.length) (hc : n ≤ cap) : DR (rowF F gb xs) (.fs 1 (bytesD (xs.take n))) (.slice (some ⟨gb, 0, none⟩) n cap) := by
 have hl : (bytesD (xs.take n)).length = n := by rw [bytesD_l, List.length_take]; omega
 have hg : ∀ i (h : i < (bytesD (xs.take n)).length), (bytesD (xs.take n))[i] = [D.it .u8 ((xs.getD i 0).toNat : Int)] := fun i h => by
  have hi : i < xs.length := by omega
  unfold bytesD
  rw [List.getElem_map, List.getElem_take, List.getD_eq_getElem?_getD, List.getElem?_eq_getElem hi]
  rfl
 refine .fs 1 _ gb 0 n cap (fun i _ => .int .u8 ((xs.getD i 0).toNat : Int)) hl hc (fun i h => by rw [hg i h]; rfl) (fun i j hi hj => ?_) (fun i h j hj => ?_)
 ·have hj0 : j = 0 := by omega
  subst hj0
  unfold rowF
  rw [if_pos rfl, if_pos (by omega)]
  congr 5
  omega
 ·have := hg i h
  have hj0 : j = 0 := by rw [this] at hj; simpa using hj
  subst hj0
  have e : (bytesD (xs.take n))[i][0] = D.it .u8 ((xs.getD i 0).toNat : Int) := by simp only [this, List.getElem_cons_zero]
  rw [e]
  exact .it _ _
theorem gather_ok (l : List (List UInt8)) (n : Int) (hl : ∀ s ∈ l, s.length = 32) (h4 : l.length ≤ 1000) (h0 : 0 ≤ n) (hn : n ≤ 32 * (l.length : Int)) :
  FnC Tryz.prog 33 [.d (.fs 32 (l.map encS)), .d (.it .i64 n)] (.tup [.d (.fs 1 (bytesD (l.flatten.take n.toNat))), .d (.bl true)]) := by
 refine ⟨rfl, fun g w vs hfz hsz hav => .inl ⟨Tryz.call33 vs w, ?_⟩⟩
 have hx := secs_len hl
 have hN : n = ((n.toNat : Nat) : Int) := by omega
 have hm : n.toNat ≤ 32 * l.length := by omega
 generalize n.toNat = m at *
 subst hN
 have h1 := hav 0 (Nat.zero_lt_succ _)
 have h2 := hav 1 (Nat.one_lt_succ_succ 0)
 rw [arr2 hsz]
 generalize vs.getD 0 undef = v0 at *
 generalize vs.getD 1 undef = v1 at *
 obtain rfl : v1 = .int .i64 (m : Int) := by cases h2 with | d _ _ h => cases h; rfl
 obtain ⟨ad, bk, off, cap, rfl, had, hc⟩ : ∃ (ad : Option Addr) (bk off cap : Nat), v0 = .slice ad l.length cap ∧ (0 < l.length → ad = some ⟨bk, off, none⟩ ∧ bk < w.heap.size) ∧
   ∀ j, j < 32 * l.length → w.cell? ⟨bk, off + j, none⟩ = some (.int .u8 ((l.flatten.getD j 0).toNat : Int)) := by
  have h1' : DR g.F (.fs 32 (l.map encS)) v0 := by cases h1 with | d _ _ h => exact h
  have hml : (l.map encS).length = l.length := List.length_map ..
  generalize he : l.map encS = es at *
  cases h1' with
  | fs0 _ a cap =>
   obtain rfl : l = [] := by cases l with | nil => rfl | cons => cases he
   exact ⟨a, 0, 0, cap, rfl, fun h => absurd h (by decide), fun j hj => by simp at hj⟩
  | fs _ _ b off len cap us hlen hcap hs hF hr =>
   have hcell : ∀ j, j < 32 * l.length → w.cell? ⟨b, off + j, none⟩ = some (.int .u8 ((l.flatten.getD j 0).toNat : Int)) := by
    intro j hj
    have hi : j / 32 < es.length := by omega
    have hjl : j % 32 < es[j / 32].length := by rw [hs _ hi]; omega
    have e1 := hF (j / 32) (j % 32) (by omega) (by omega)
    have e2 := hr (j / 32) hi (j % 32) hjl
    have e3 := flat_get (fun x hx => by obtain ⟨i, hi, rfl⟩ := List.getElem_of_mem hx; exact hs i hi) (j / 32) (j % 32) hi hjl
    have e0 : es.flatten = encS l.flatten := by rw [← he]; exact secs_flat l
    rw [e0, show j / 32 * 32 + j % 32 = j by omega] at e3
    unfold encS at e3
    rw [List.getElem?_map, List.getElem?_eq_getElem (by omega)] at e3
    have e4 := Option.some.inj e3
    rw [← e4] at e2
    rw [show off + j / 32 * 32 + j % 32 = off + j by omega] at e1
    rw [hfz _ _ _ e1]
    generalize us (j / 32) (j % 32) = u at *
    cases e2
    rw [List.getD_eq_getElem?_getD, List.getElem?_eq_getElem (by omega)]
    rfl
   obtain rfl : len = l.length := by omega
   refine ⟨some ⟨b, off, none⟩, b, off, cap, rfl, fun h => ⟨rfl, ?_⟩, hcell⟩
   exact World.block_lt_of_cell? w _ (hcell 0 (by omega))
 refine gather_pos writeC bytesC ad bk off l.length cap l.flatten m w (by omega) hx hm had hc _ fun w3 a cap3 hb ho hmc => ?_
 have hcl := clone_ok (l.flatten.take m) (by rw [List.length_take]; omega)
 have key : ∃ g2 : Gh, (∀ b o v, g.F b o = some v → g2.F b o = some v) ∧ (∀ b o v, g2.F b o = some v → g.F b o = some v ∨ w.heap.size ≤ b) ∧ (∀ b o v, g2.F b o = some v → w3.cell? ⟨b, o, none⟩ = some v) ∧ DR g2.F (.fs 1 (bytesD (l.flatten.take m))) (.slice a m cap3) := by
  rcases ho with ⟨ho1, ⟨e, h0'⟩ | ⟨gb, c, cur, e, ho2, ho3, ho4, ho5, ho6, ho7⟩⟩
  ·obtain rfl : m = 0 := by omega
   exact ⟨g, fun _ _ _ h => h, fun _ _ _ h => .inl h, fun b o v h => (hb.cell (p := ⟨b, o, none⟩) (World.block_lt_of_cell? w _ (hfz b o v h))).trans (hfz b o v h), .fs0 1 _ _⟩
  ·cases e
   have hold : ∀ b o v, g.F b o = some v → b < w.heap.size := fun b o v h => World.block_lt_of_cell? w _ (hfz b o v h)
   refine ⟨{ g with F := rowF g.F gb l.flatten }, fun b o v h => ?_, fun b o v h => ?_, fun b o v h => ?_, row_dr g.F gb l.flatten m cap3 (by omega) hmc⟩
   ·have := hold b o v h
    show rowF g.F gb l.flatten b o = some v
    unfold rowF
    rw [if_neg (by omega)]; exact h
   ·have h : rowF g.F gb l.flatten b o = some v := h
    unfold rowF at h
    by_cases hbg : b = gb
    ·right; omega
    ·rw [if_neg hbg] at h; exact .inl h
   ·have h' : rowF g.F gb l.flatten b o = some v := h
    clear h
    unfold rowF at h'
    by_cases hbg : b = gb
    ·rw [if_pos hbg] at h'
     by_cases hol : o < l.flatten.length
     ·rw [if_pos hol] at h'
      obtain rfl := Option.some.inj h'
      subst hbg
      rw [Lib.cell_of_heap ho3]
      have this : (cur.toList.take (32 * l.length * 1))[o]? = (Lib.byteCells l.flatten)[o]? := by rw [ho7]
      rw [List.getElem?_take, if_pos (by omega)] at this
      rw [show cur[o]? = cur.toList[o]? from (Array.getElem?_toList ..).symm, this]
      unfold Lib.byteCells
      rw [List.getElem?_map, List.getD_eq_getElem?_getD, List.getElem?_eq_getElem hol]
      rfl
     ·rw [if_neg hol] at h'; cases h'
    ·rw [if_neg hbg] at h'
     exact (hb.cell (p := ⟨b, o, none⟩) (hold b o v h')).trans (hfz b o v h')
 obtain ⟨g2, k1, k2, k3, k4⟩ := key
 refine (step_calls (hcl.run g2 w3 #[.slice a m cap3] k3 rfl (fun j hj => ?_))).mono ?_
 ·have hj0 : j = 0 := by simp at hj; omega
  subst hj0
  exact .d _ _ k4
 ·rintro e w' ⟨r, g', rfl, q1, q2, q3, q4, q5, q6, q7, q8, q9⟩
  refine ⟨r, rfl, _, g', rfl, ?_, fun b o v h => q2 _ _ _ (k1 _ _ _ h), fun b o v h => ?_, q4, Nat.le_trans hb.size q5, fun b h => (q6 b (Nat.lt_of_lt_of_le h hb.size)).trans (hb.block b h), q7.trans hb.os, q8.trans hb.tape, q9.trans hb.output⟩
  ·refine .tup _ _ rfl fun j hj => ?_
   have hj2 : j = 0 ∨ j = 1 := by simp at hj; omega
   rcases hj2 with rfl | rfl
   ·exact q1
   ·exact .d _ _ (.bl true)
  ·rcases q3 b o v h with h | h
   ·exact k2 _ _ _ h
   ·exact .inr (Nat.le_trans hb.size h)
end Go.Proofs.YtmfokpfddponjaaGreatDoor
