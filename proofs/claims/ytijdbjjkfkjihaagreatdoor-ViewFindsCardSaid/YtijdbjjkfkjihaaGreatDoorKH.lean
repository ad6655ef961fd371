/- Contracts of the functions that the law reaches, and the law. Conditions: none. -/
import Derived.Test.YtijdbjjkfkjihaaGreatDoorKD
import Derived.Test.YtijdbjjkfkjihaaGreatDoorKC
import Derived.Test.YtijdbjjkfkjihaaGreatDoorKG
import Derived.Test.YtijdbjjkfkjihaaGreatDoorSD
import Derived.WalkKit
import Derived.LoopTactic
import Derived.Lib.Buffer
import Derived.Lib.BufferWrite
import Derived.Deep.Draws
import Derived.Test.YtijdbjjkfkjihaaGreatDoorProg
import Derived.KernelRfl
import Derived.Shelf.Bytes.BufferK
import Derived.Shelf.Bytes.Bytes
import Derived.Laws.Externs
import Derived.Test.YtijdbjjkfkjihaaGreatDoorKA
import Derived.Test.YtijdbjjkfkjihaaGreatDoorSC
import Derived.Test.YtijdbjjkfkjihaaGreatDoorCards
import Derived.Test.YtijdbjjkfkjihaaGreatDoorTie
set_option linter.all false
/- The plain law of a tree: each node is found, none is left out, and they stand in order. Conditions: none. -/
namespace Go.Proofs.YtijdbjjkfkjihaaGreatDoor
open Go.Sy
set_option maxRecDepth 100000
set_option linter.all false
theorem name_noS {s : List UInt8} (h : nameB s = true) : s.all (fun b => b != 47) = true := by
  simp only [nameB, Bool.and_eq_true, List.all_eq_true] at h
  rw [List.all_eq_true]
  intro b hb
  have := h.2 b hb
  simp only [signB, decide_eq_true_eq] at this
  rw [bne_iff_ne]
  intro e
  subst e
  revert this; decide
theorem pw_joinP : ∀ (l : List (List UInt8)), (∀ s ∈ l, nameB s = true) → pw (joinP l) = l
  | [], _ => rfl
  | s :: t, h => by
    have e : joinP (s :: t) = 47 :: (s ++ joinP t) := by simp [joinP]
    rw [e, pw, wordsC_app ?_ (name_noS (h s (List.mem_cons_self ..))), pw_joinP t fun x hx => h x (List.mem_cons_of_mem _ hx)]
    cases t with
    | nil => exact .inl rfl
    | cons a b => right; simp [joinP]
theorem split_joinR {l : List (List UInt8)} (h : ∀ s ∈ l, nameB s = true) (h4 : l.length ≤ 4) : splitP (joinR l) = (l, 0) := by
  by_cases h0 : l = []
  · subst h0; rfl
  · have hp := pw_joinP l h
    rw [joinR, if_neg h0]
    have hh : (joinP l)[0]? = some 47 := by
      cases l with
      | nil => exact absurd rfl h0
      | cons a b => simp [joinP]
    have h1 : ¬ joinP l = [47] := fun e => by
      rw [e] at hp
      have e2 : l = [[]] := hp.symm
      subst e2
      have := h [] (List.mem_cons_self ..)
      revert this; decide
    rw [splitP_pw0 h1 hh (by rw [hp]; exact h4) (by rw [hp, List.all_eq_true]; exact h), hp]
theorem join_splitP {p : List UInt8} (h : (splitP p).2 = 0) : joinR (splitP p).1 = p := by
  unfold splitP at h ⊢
  split
  · rename_i h1; subst h1; rfl
  · rename_i h1
    rw [if_neg h1] at h
    cases p with
    | nil => exact absurd h (by decide)
    | cons b r =>
      simp only at h ⊢
      split
      · rename_i h2
        rw [if_pos h2] at h
        subst h2
        split
        · rw [joinR, if_neg (wordsC_ne 47 r), joinP_words]
        · rename_i h3; rw [if_neg h3] at h; exact absurd h (by decide)
      · rename_i h2; rw [if_neg h2] at h; exact absurd h (by decide)
theorem lkp_app (f : Int → List UInt8) : ∀ (a b : List (List UInt8)) (n m : Int), lkp f a n = (m, 0) → lkp f (a ++ b) n = lkp f b m
  | [], b, n, m, h => by
    rw [lkp] at h
    obtain rfl : n = m := (Prod.ext_iff.1 h).1
    rfl
  | s :: t, b, n, m, h => by
    rw [List.cons_append, lkp]
    rw [lkp] at h
    by_cases h0 : (stepV f n s).2 = 0
    · rw [if_pos h0] at h ⊢
      exact lkp_app f t b _ m h
    · rw [if_neg h0] at h
      exact absurd (Prod.ext_iff.1 h).2 h0
/-- A name that stands is found. -/
theorem nms_fnd (f : Int → List UInt8) (n : Int) (s : List UInt8) : s ∈ nms f n ↔ ∃ k, fndK f n s = some k ∧ fndP f n s k := by
  unfold nms
  rw [compact_mem, sortS, List.mem_mergeSort, nmsK]
  constructor
  · intro h
    obtain ⟨k, hk, e⟩ := List.mem_map.1 h
    obtain ⟨hk, hs⟩ := List.mem_filter.1 hk
    have hs := of_decide_eq_true hs
    cases hf : fndK f n s with
    | none =>
      unfold fndK at hf
      rw [List.find?_eq_none] at hf
      exact absurd (decide_eq_true (⟨hs, e⟩ : fndP f n s k)) (hf k hk)
    | some j =>
      refine ⟨j, rfl, ?_⟩
      unfold fndK at hf
      have := List.find?_some hf
      exact of_decide_eq_true this
  · rintro ⟨k, hk, hp⟩
    unfold fndK at hk
    exact List.mem_map.2 ⟨k, List.mem_filter.2 ⟨List.mem_of_find?_eq_some hk, decide_eq_true hp.1⟩, hp.2⟩
theorem step_nms {f : Int → List UInt8} {n : Int} {s : List UInt8} (h2 : (inoAt f n).k = 2) (hs : s ∈ nms f n) : stepV f n s = (mOf f n s, 0) ∧ (inoAt f (mOf f n s)).k ≠ 0 := by
  obtain ⟨k, hk, hp⟩ := (nms_fnd f n s).1 hs
  have e : mOf f n s = (entAt f (k : Nat)).t := by unfold mOf kOf; rw [hk]
  refine ⟨?_, ?_⟩
  · unfold stepV; rw [if_pos h2, hk, e]
  · rw [e]; exact hp.1.2.2
theorem nms_step {f : Int → List UInt8} {n : Int} {s : List UInt8} (h : (stepV f n s).2 = 0) : (inoAt f n).k = 2 ∧ s ∈ nms f n ∧ (stepV f n s).1 = mOf f n s := by
  unfold stepV at h ⊢
  by_cases h2 : (inoAt f n).k = 2
  · rw [if_pos h2] at h ⊢
    cases hk : fndK f n s with
    | none => rw [hk] at h; cases h
    | some k =>
      refine ⟨h2, (nms_fnd f n s).2 ⟨k, hk, ?_⟩, ?_⟩
      · unfold fndK at hk
        have := List.find?_some hk
        exact of_decide_eq_true this
      · unfold mOf kOf; rw [hk]
  · rw [if_neg h2] at h; exact absurd h (by decide)
/-- A node of the tree, found by its way. -/
def FoundV (f : Int → List UInt8) (way rest : List (List UInt8)) (x : Nod) : Prop :=
  ∃ m : Int, x.p = joinR (way ++ rest) ∧ (∀ s ∈ rest, nameB s = true) ∧ rest ≠ [] ∧ lkp f (way ++ rest) 0 = (m, 0) ∧ x.d = ((inoAt f m).k == 2) ∧ (inoAt f m).k ≠ 0 ∧ x.x = dataV f (inoAt f m)
theorem sub_mem (f : Int → List UInt8) : ∀ (j : Nat) (n : Int) (way : List (List UInt8)), lkp f way 0 = (n, 0) → (inoAt f n).k = 2 → ∀ x ∈ subV f j n way, ∃ rest, rest.length ≤ j ∧ FoundV f way rest x
  | 0, _, _, _, _, x, hx => by cases hx
  | j + 1, n, way, hw, h2, x, hx => by
    rw [subV] at hx
    obtain ⟨s, hs, hx⟩ := List.mem_flatMap.1 hx
    obtain ⟨e1, e2⟩ := step_nms h2 hs
    have hn := nms_name f n s hs
    have hw' : lkp f (way ++ [s]) 0 = (mOf f n s, 0) := by
      rw [lkp_app f way [s] 0 n hw, lkp, e1, if_pos rfl, lkp]
    rcases List.mem_cons.1 hx with rfl | hx
    · exact ⟨[s], by simp, mOf f n s, rfl, fun a ha => by rw [List.mem_singleton.1 ha]; exact hn, by simp, hw', rfl, e2, rfl⟩
    · by_cases hk : (inoAt f (mOf f n s)).k = 2
      · rw [if_pos hk] at hx
        obtain ⟨r, hr, m, a1, a2, a3, a4, a5, a6, a7⟩ := sub_mem f j (mOf f n s) (way ++ [s]) hw' hk x hx
        rw [List.append_assoc] at a1 a4
        refine ⟨[s] ++ r, by simp; omega, m, a1, fun a ha => ?_, by simp, a4, a5, a6, a7⟩
        rcases List.mem_append.1 ha with ha | ha
        · rw [List.mem_singleton.1 ha]; exact hn
        · exact a2 a ha
      · rw [if_neg hk] at hx; cases hx
/-- Nothing is left out. -/
theorem sub_all (f : Int → List UInt8) : ∀ (j : Nat) (n : Int) (way : List (List UInt8)) (rest : List (List UInt8)) (m : Int), rest ≠ [] → rest.length ≤ j → lkp f rest n = (m, 0) → ∃ x ∈ subV f j n way, x.p = joinR (way ++ rest)
  | j, n, way, [], m, h0, _, _ => absurd rfl h0
  | 0, n, way, s :: t, m, _, hj, _ => by cases hj
  | j + 1, n, way, s :: t, m, _, hj, h => by
    rw [lkp] at h
    by_cases h0 : (stepV f n s).2 = 0
    · rw [if_pos h0] at h
      obtain ⟨a1, a2, a3⟩ := nms_step h0
      rw [a3] at h
      rw [subV]
      by_cases ht : t = []
      · subst ht
        exact ⟨_, List.mem_flatMap.2 ⟨s, a2, List.mem_cons_self ..⟩, rfl⟩
      · have hk : (inoAt f (mOf f n s)).k = 2 := by
          cases t with
          | nil => exact absurd rfl ht
          | cons a b =>
            rw [lkp] at h
            by_cases hs : (stepV f (mOf f n s) a).2 = 0
            · exact (nms_step hs).1
            · rw [if_neg hs] at h; exact absurd (Prod.ext_iff.1 h).2 hs
        obtain ⟨x, hx, e⟩ := sub_all f j (mOf f n s) (way ++ [s]) t m ht (by simp at hj; omega) h
        refine ⟨x, List.mem_flatMap.2 ⟨s, a2, List.mem_cons_of_mem _ (by rw [if_pos hk]; exact hx)⟩, ?_⟩
        rw [e, List.append_assoc]; rfl
    · rw [if_neg h0] at h; exact absurd (Prod.ext_iff.1 h).2 h0
theorem befN_app : ∀ (w a b : List (List UInt8)), befN (w ++ a) (w ++ b) = befN a b
  | [], _, _ => rfl
  | x :: w, a, b => by rw [List.cons_append, List.cons_append, befN, if_pos rfl, befN_app w]
/-- The tree's order. -/
theorem sub_sort (f : Int → List UInt8) : ∀ (j : Nat) (n : Int) (way : List (List UInt8)), lkp f way 0 = (n, 0) → (inoAt f n).k = 2 → (∀ s ∈ way, nameB s = true) → way.length + j ≤ 4 → (subV f j n way).Pairwise fun x y => befN (key x.p) (key y.p) = true
  | 0, _, _, _, _, _, _ => List.Pairwise.nil
  | j + 1, n, way, hw, h2, hn, h4 => by
    have hkey : ∀ (i : Nat) (w rest : List (List UInt8)) (x : Nod), FoundV f w rest x → (∀ s ∈ w, nameB s = true) → (w ++ rest).length ≤ 4 → key x.p = w ++ rest := fun i w rest x ⟨m, a1, a2, _⟩ hw hl => by
      unfold key
      rw [a1, split_joinR (fun s hs => (List.mem_append.1 hs).elim (hw s) (a2 s)) hl]
    have hone : ∀ s ∈ nms f n, ∀ x ∈ (nodV f way n s :: (if (inoAt f (mOf f n s)).k = 2 then subV f j (mOf f n s) (way ++ [s]) else [])), ∃ r, key x.p = way ++ (s :: r) := by
      intro s hs x hx
      obtain ⟨e1, e2⟩ := step_nms h2 hs
      have hns := nms_name f n s hs
      have hw' : lkp f (way ++ [s]) 0 = (mOf f n s, 0) := by
        rw [lkp_app f way [s] 0 n hw, lkp, e1, if_pos rfl, lkp]
      rcases List.mem_cons.1 hx with rfl | hx
      · refine ⟨[], ?_⟩
        show key (joinR (way ++ [s])) = _
        unfold key
        rw [split_joinR (fun a ha => (List.mem_append.1 ha).elim (hn a) fun q => by rw [List.mem_singleton.1 q]; exact hns) (by simp; omega)]
      · by_cases hk : (inoAt f (mOf f n s)).k = 2
        · rw [if_pos hk] at hx
          obtain ⟨r, hr, hf⟩ := sub_mem f j (mOf f n s) (way ++ [s]) hw' hk x hx
          refine ⟨r, ?_⟩
          rw [hkey j (way ++ [s]) r x hf (fun a ha => (List.mem_append.1 ha).elim (hn a) fun q => by rw [List.mem_singleton.1 q]; exact hns) (by simp; omega), List.append_assoc]; rfl
        · rw [if_neg hk] at hx; cases hx
    rw [subV, List.pairwise_flatMap]
    refine ⟨fun s hs => ?_, ?_⟩
    · obtain ⟨e1, e2⟩ := step_nms h2 hs
      have hns := nms_name f n s hs
      have hw' : lkp f (way ++ [s]) 0 = (mOf f n s, 0) := by
        rw [lkp_app f way [s] 0 n hw, lkp, e1, if_pos rfl, lkp]
      have hnw : ∀ a ∈ way ++ [s], nameB a = true := fun a ha => (List.mem_append.1 ha).elim (hn a) fun q => by rw [List.mem_singleton.1 q]; exact hns
      rw [List.pairwise_cons]
      by_cases hk : (inoAt f (mOf f n s)).k = 2
      · rw [if_pos hk]
        refine ⟨fun x hx => ?_, sub_sort f j (mOf f n s) (way ++ [s]) hw' hk hnw (by simp; omega)⟩
        obtain ⟨r, hr, hf⟩ := sub_mem f j (mOf f n s) (way ++ [s]) hw' hk x hx
        have e0 : key (nodV f way n s).p = (way ++ [s]) ++ [] := by
          show key (joinR (way ++ [s])) = _
          unfold key
          rw [split_joinR hnw (by simp; omega), List.append_nil]
        rw [e0, hkey j (way ++ [s]) r x hf hnw (by simp; omega), befN_app]
        obtain ⟨m, _, _, a3, _⟩ := hf
        cases r with
        | nil => exact absurd rfl a3
        | cons a b => rfl
      · rw [if_neg hk]; exact ⟨fun x hx => (List.not_mem_nil hx).elim, List.Pairwise.nil⟩
    · refine List.Pairwise.imp_of_mem (R := (· < ·)) (fun {s t} hs ht hst x hx y hy => ?_) (compact_sorted (sortS_sorted _))
      obtain ⟨r, hr⟩ := hone s hs x hx
      obtain ⟨q, hq⟩ := hone t ht y hy
      have : ¬ s = t := fun e => not_lt_self s (by rw [← e] at hst; exact hst)
      rw [hr, hq, befN_app, befN, if_neg this]
      exact (less_lt s t).2 hst
/-- What is to be shown of a tree. -/
def TreeOK (f : Int → List UInt8) (t : List Nod × Bool) : Prop :=
  t.1.length ≤ 64 ∧ (t.2 = false → t.1.length = 64)
  ∧ (∀ x ∈ t.1, ∃ m : Int, lookP f x.p = (m, 0) ∧ x.d = ((inoAt f m).k == 2) ∧ (inoAt f m).k ≠ 0 ∧ x.x = dataV f (inoAt f m) ∧ x.p ≠ [47])
  ∧ t.1.Pairwise (fun x y => befN (key x.p) (key y.p) = true)
  ∧ (t.2 = true → ∀ p : List UInt8, (∃ x ∈ t.1, x.p = p) ↔ (lookP f p).2 = 0 ∧ p ≠ [47])
theorem tree_law (f : Int → List UInt8) : TreeOK f (treeV f) := by
  unfold treeV
  by_cases h2 : (inoAt f 0).k = 2
  · rw [if_pos h2]
    have hm : ∀ x ∈ subV f 4 0 [], ∃ m : Int, lookP f x.p = (m, 0) ∧ x.d = ((inoAt f m).k == 2) ∧ (inoAt f m).k ≠ 0 ∧ x.x = dataV f (inoAt f m) ∧ x.p ≠ [47] := by
      intro x hx
      obtain ⟨r, hr, m, a1, a2, a3, a4, a5, a6, a7⟩ := sub_mem f 4 0 [] rfl h2 x hx
      rw [List.nil_append] at a1 a4
      have e := split_joinR a2 hr
      refine ⟨m, ?_, a5, a6, a7, fun q => ?_⟩
      · unfold lookP; rw [a1, e, if_pos rfl, a4]
      · rw [← a1, q] at e
        exact a3 (Prod.ext_iff.1 e).1.symm
    have hs := sub_sort f 4 0 [] rfl h2 (fun s hs => by cases hs) (Nat.le_refl 4)
    unfold topV
    refine ⟨by simp only [List.length_take]; omega, fun h => ?_, fun x hx => hm x (List.mem_of_mem_take hx), hs.sublist (List.take_sublist ..), fun h p => ?_⟩
    · have := of_decide_eq_false h
      simp only [List.length_take]; omega
    · have h := of_decide_eq_true h
      simp only [List.take_of_length_le h]
      constructor
      · rintro ⟨x, hx, rfl⟩
        obtain ⟨m, a1, _, _, _, a2⟩ := hm x hx
        exact ⟨by rw [a1], a2⟩
      · rintro ⟨h0, h1⟩
        have hsp : (splitP p).2 = 0 := by
          unfold lookP at h0
          by_cases q : (splitP p).2 = 0
          · exact q
          · rw [if_neg q] at h0; exact h0
        have e := join_splitP hsp
        unfold lookP at h0
        rw [if_pos hsp] at h0
        obtain ⟨x, hx, ex⟩ := sub_all f 4 0 [] (splitP p).1 (lkp f (splitP p).1 0).1 (fun q => by rw [q] at e; exact h1 e.symm) (splitP_len p) (Prod.ext rfl h0)
        exact ⟨x, hx, by rw [ex, List.nil_append, e]⟩
  · rw [if_neg h2]
    refine ⟨Nat.zero_le _, fun h => (by cases h), fun x hx => (List.not_mem_nil hx).elim, List.Pairwise.nil, fun _ p => ?_⟩
    constructor
    · rintro ⟨x, hx, _⟩; cases hx
    · rintro ⟨h0, h1⟩
      exfalso
      unfold lookP at h0
      by_cases q : (splitP p).2 = 0
      · rw [if_pos q] at h0
        have e := join_splitP q
        cases hp : (splitP p).1 with
        | nil => rw [hp] at e; exact h1 e.symm
        | cons a b =>
          rw [hp, lkp] at h0
          by_cases hs : (stepV f 0 a).2 = 0
          · exact h2 (nms_step hs).1
          · rw [if_neg hs] at h0; exact hs h0
      · rw [if_neg q] at h0; exact q h0
end Go.Proofs.YtijdbjjkfkjihaaGreatDoor

/- What is safe on a disk; files and folders on it. Conditions: none. -/
namespace Go.Proofs.YtijdbjjkfkjihaaGreatDoor
open Go.Sy
set_option maxRecDepth 100000
set_option linter.all false
def safV (d : Option Dk) : List (List UInt8) := match d with
  | none => []
  | some dk => dk.safe
theorem safe_ok (d : Option Dk) (hd : DkOK d) : FnC Tryz.prog 47 [.d (encD d)] (.d (.fs 32 ((safV d).map encS))) := by
  have hn := none_ok d
  cases d with
  | none =>
    have hn : FnC Tryz.prog 68 [.d (.ot (.pointer none))] (.d (.bl true)) := hn
    refine FnC.intro ti_ok Tryz.func47 rfl Tryz.ntmps47 Tryz.call47 rfl (Nat.le_of_ble_eq_true rfl) rfl ?_
    (repeat' ((conv=>whnf);first|with_reducible refine gA ?_|((with_reducible refine callE_id ?_); (refine CallE.con ⟨_, hn, ?_⟩))|(with_reducible first|refine gB ?_|refine gZ (fun x hx hu=>?_)|refine gY (fun x hx=>?_)|refine gE ?_|refine Both.mk ?_ ?_|refine gS (fun h=>?_) (fun h=>?_)|refine Spl.nt ?_|refine Spl.mk (fun h=>?_) (fun h=>?_))))
    rfl
  | some d =>
    obtain ⟨nx, safe, wait, log, ep⟩ := d
    have hlen : safe.length ≤ 65 := hd.2.2.1
    by_cases h0 : safe = []
    · subst h0
      have hn : FnC Tryz.prog 68 [.d (.fp 6 (encDk ⟨nx, [], wait, log, ep⟩))] (.d (.bl true)) := hn
      refine FnC.intro ti_ok Tryz.func47 rfl Tryz.ntmps47 Tryz.call47 rfl (Nat.le_of_ble_eq_true rfl) rfl ?_
      (repeat' ((conv=>whnf);first|with_reducible refine gA ?_|((with_reducible refine callE_id ?_); (refine CallE.con ⟨_, hn, ?_⟩))|(with_reducible first|refine gB ?_|refine gZ (fun x hx hu=>?_)|refine gY (fun x hx=>?_)|refine gE ?_|refine Both.mk ?_ ?_|refine gS (fun h=>?_) (fun h=>?_)|refine Spl.nt ?_|refine Spl.mk (fun h=>?_) (fun h=>?_))))
      rfl
    · have hne : (safe.map encS).isEmpty = false := by
        cases safe with
        | nil => exact absurd rfl h0
        | cons => rfl
      have hnb : noneB (some ⟨nx, safe, wait, log, ep⟩) = false := decide_eq_false fun q => h0 (List.length_eq_zero_iff.1 q)
      rw [hnb] at hn
      have hml' : (safe.map encS).length = safe.length := List.length_map ..
      refine FnC.intro ti_ok Tryz.func47 rfl Tryz.ntmps47 Tryz.call47 rfl (Nat.le_of_ble_eq_true rfl) rfl ?_
      (repeat' ((conv=>whnf);first|with_reducible refine gA ?_|((with_reducible refine callE_id ?_); first | (refine CallE.con ⟨_, hn, ?_⟩) | refine CallE.inl ?_) | with_reducible refine CallI.inl ti_ok i67 rfl ?_ | with_reducible refine Spl.no hne ?_|(with_reducible first|refine gB ?_|refine gZ (fun x hx hu=>?_)|refine gY (fun x hx=>?_)|refine gE ?_|refine Both.mk ?_ ?_|refine gS (fun h=>?_) (fun h=>?_)|refine Spl.nt ?_|refine Spl.mk (fun h=>?_) (fun h=>?_))))
      rfl
end Go.Proofs.YtijdbjjkfkjihaaGreatDoor

/- Files and folders on a disk: mounted. Conditions: none. -/
namespace Go.Proofs.YtijdbjjkfkjihaaGreatDoor
open Go.Sy
set_option maxRecDepth 100000
set_option linter.all false
def mountV (d : Option Dk) : AV := if mntP (imgD d) then .tup [.d (.fp 1 [encD d]), .d (.it .i64 0)] else .tup [.d (.ot (.pointer none)), .d (.it .i64 (if safV d = [] then 1 else 8))]
theorem safV_img (d : Option Dk) : (imgD d).length = (safV d).length := by
  cases d with
  | none => rfl
  | some dk => unfold imgD safV; simp
theorem mount_ok (d : Option Dk) (hd : DkOK d) : FnC Tryz.prog 21 [.d (encD d)] (mountV d) := by
  have hs := safe_ok d hd
  have hm := mounted_ok d hd
  have hl := safV_img d
  have hsl : ((safV d).map encS).length = (safV d).length := List.length_map ..
  unfold mountV
  generalize encD d = E at *
  by_cases h0 : safV d = []
  · have hn : ¬ mntP (imgD d) := fun h => by
      have := h.1
      rw [hl, h0] at this; cases this
    rw [if_neg hn, if_pos h0]
    rw [h0] at hs
    refine FnC.intro ti_ok Tryz.func21 rfl Tryz.ntmps21 Tryz.call21 rfl (Nat.le_of_ble_eq_true rfl) rfl ?_
    (repeat' ((conv=>whnf);first|with_reducible refine gA ?_|((with_reducible refine callE_id ?_); first | (refine CallE.con ⟨_, hs, ?_⟩))|(with_reducible first|refine gB ?_|refine gZ (fun x hx hu=>?_)|refine gY (fun x hx=>?_)|refine gE ?_|refine Both.mk ?_ ?_|refine gS (fun h=>?_) (fun h=>?_)|refine Spl.nt ?_|refine Spl.mk (fun h=>?_) (fun h=>?_))))
    rfl
  · have h0' : (safV d).length ≠ 0 := fun q => h0 (List.length_eq_zero_iff.1 q)
    by_cases hp : mntP (imgD d)
    · rw [if_pos hp]
      rw [decide_eq_true hp] at hm
      refine FnC.introW ti_ok Tryz.func21 rfl Tryz.ntmps21 Tryz.call21 rfl (Nat.le_of_ble_eq_true rfl) rfl ?_
      (repeat' ((conv=>whnf);first|with_reducible refine gA ?_|((with_reducible refine callE_id ?_); first | (refine CallE.con ⟨_, hs, ?_⟩) | (refine CallE.con ⟨_, hm, ?_⟩))|(with_reducible first|refine gB ?_|refine gZ (fun x hx hu=>?_)|refine gY (fun x hx=>?_)|refine gE ?_|refine Both.mk ?_ ?_|refine gS (fun h=>?_) (fun h=>?_)|refine Spl.nt ?_|refine Spl.mk (fun h=>?_) (fun h=>?_))))
      refine ⟨⟨[(2, .d (.fp 1 [E])), (3, .d (.it .i64 0))], [], 1⟩, Wk.frzPL 0 1 [.d E] (by with_unfolding_all exact rfl) (And.intro ⟨_, by with_unfolding_all exact rfl, .inr ⟨[E], by with_unfolding_all exact rfl, rfl, rfl⟩⟩ (And.intro ⟨_, by with_unfolding_all exact rfl, .inl rfl⟩ trivial)) trivial rfl, ?_⟩
      exact rfl
    · rw [if_neg hp, if_neg h0]
      rw [decide_eq_false hp] at hm
      refine FnC.intro ti_ok Tryz.func21 rfl Tryz.ntmps21 Tryz.call21 rfl (Nat.le_of_ble_eq_true rfl) rfl ?_
      (repeat' ((conv=>whnf);first|with_reducible refine gA ?_|((with_reducible refine callE_id ?_); first | (refine CallE.con ⟨_, hs, ?_⟩) | (refine CallE.con ⟨_, hm, ?_⟩))|(with_reducible first|refine gB ?_|refine gZ (fun x hx hu=>?_)|refine gY (fun x hx=>?_)|refine gE ?_|refine Both.mk ?_ ?_|refine gS (fun h=>?_) (fun h=>?_)|refine Spl.nt ?_|refine Spl.mk (fun h=>?_) (fun h=>?_))))
      rfl
end Go.Proofs.YtijdbjjkfkjihaaGreatDoor

/- A file of a mounted disk, and its parts. Conditions: none. -/
namespace Go.Proofs.YtijdbjjkfkjihaaGreatDoor
open Go.Sy
set_option maxRecDepth 100000
set_option linter.all false
theorem fsnone_ok (E : D) (dk : Dk) (hE : E = encD (some dk)) : FnC Tryz.prog 94 [.d (.fp 1 [E])] (.d (.bl false)) := by
  have hE : E = .fp 6 (encDk dk) := hE
  subst hE
  refine FnC.intro ti_ok Tryz.func94 rfl Tryz.ntmps94 Tryz.call94 rfl (Nat.le_of_ble_eq_true rfl) rfl ?_
  (repeat' ((conv=>whnf);first|with_reducible refine gA ?_|(with_reducible first|refine gB ?_|refine gZ (fun x hx hu=>?_)|refine gY (fun x hx=>?_)|refine gE ?_|refine Both.mk ?_ ?_|refine gS (fun h=>?_) (fun h=>?_)|refine Spl.nt ?_|refine Spl.mk (fun h=>?_) (fun h=>?_))))
  rfl
theorem fsneed_ok (n : Int) (h : 0 ≤ n ∧ n ≤ 1000) : FnC Tryz.prog 55 [.d (.it .i64 n)] (.d (.it .i64 ((n + 31) / 32))) := by
  refine FnC.intro ti_ok Tryz.func55 rfl Tryz.ntmps55 Tryz.call55 rfl (Nat.le_of_ble_eq_true rfl) rfl ?_
  (repeat' ((conv=>whnf);first|with_reducible refine gA ?_|(with_reducible first|refine gB ?_|refine gZ (fun x hx hu=>?_)|refine gY (fun x hx=>?_)|refine gE ?_|refine Both.mk ?_ ?_|refine gS (fun h=>?_) (fun h=>?_)|refine Spl.nt ?_|refine Spl.mk (fun h=>?_) (fun h=>?_))))
  refine it_eq ?_
  omega
theorem fssec_ok (dk : Dk) (hd : DkOK (some dk)) (b : Int) (hb : -1000 ≤ b ∧ b ≤ 1000) : FnC Tryz.prog 56 [.d (.fp 1 [encD (some dk)]), .d (.it .i64 b)] (.dg 32 (encS (rdS (some dk) (40 + b)))) := by
  have h := read_ok (some dk) hd (41 + b - 1)
  rw [show rdS (some dk) (41 + b - 1) = rdS (some dk) (40 + b) from congrArg _ (by omega)] at h
  have hs := rdS_len hd (40 + b)
  have h : FnC Tryz.prog 86 [.d (.fp 6 (encDk dk)), .d (.it .i64 (41 + b - 1))] (.tup [.dg 32 (encS (rdS (some dk) (40 + b))), .d (.it .i64 (rdE (some dk) (41 + b - 1)))]) := h
  show FnC Tryz.prog 56 [.d (.fp 1 [.fp 6 (encDk dk)]), .d (.it .i64 b)] _
  obtain ⟨g, hg⟩ := is32 hs
  rw [hg] at h ⊢
  refine FnC.intro ti_ok Tryz.func56 rfl Tryz.ntmps56 Tryz.call56 rfl (Nat.le_of_ble_eq_true rfl) rfl ?_
  (repeat' ((conv=>whnf);first|with_reducible refine gA ?_|((with_reducible refine callE_id ?_); (refine CallE.con ⟨_, h, ?_⟩))|(with_reducible first|refine gB ?_|refine gZ (fun x hx hu=>?_)|refine gY (fun x hx=>?_)|refine gE ?_|refine Both.mk ?_ ?_|refine gS (fun h=>?_) (fun h=>?_)|refine Spl.nt ?_|refine Spl.mk (fun h=>?_) (fun h=>?_))))
  all_goals rfl
theorem file_ok (dk : Dk) (hd : DkOK (some dk)) (p : List UInt8) (hp : p.length ≤ 100000) (m : Int) (hm : lookP (rdS (some dk)) p = (m, 0)) (h1 : (inoAt (rdS (some dk)) m).k = 1) : FnC Tryz.prog 54 [.d (.fp 1 [encD (some dk)]), .d (.st p)] (.tup [.d (.it .i64 m), .dg 6 (encI (inoAt (rdS (some dk)) m)), .d (.it .i64 0)]) := by
  have hl := lookup_ok (some dk) hd p hp
  have hi := inode_ok (some dk) hd m
  have hn := fsnone_ok (encD (some dk)) dk rfl
  rw [hm] at hl
  have hl : FnC Tryz.prog 22 [.d (encD (some dk)), .d (.st p)] (.tup [.d (.it .i64 m), .d (.it .i64 0)]) := hl
  generalize encD (some dk) = E at *
  generalize inoAt (rdS (some dk)) m = x at *
  obtain ⟨k, z, b0, b1, b2, b3⟩ := x
  have h1 : k = 1 := h1
  subst h1
  refine FnC.intro ti_ok Tryz.func54 rfl Tryz.ntmps54 Tryz.call54 rfl (Nat.le_of_ble_eq_true rfl) rfl ?_
  (repeat' ((conv=>whnf);first|with_reducible refine gA ?_|((with_reducible refine callE_id ?_); first | (refine CallE.con ⟨_, hn, ?_⟩) | (refine CallE.con ⟨_, hl, ?_⟩) | (refine CallE.con ⟨_, hi, ?_⟩))|(with_reducible first|refine gB ?_|refine gZ (fun x hx hu=>?_)|refine gY (fun x hx=>?_)|refine gE ?_|refine Both.mk ?_ ?_|refine gS (fun h=>?_) (fun h=>?_)|refine Spl.nt ?_|refine Spl.mk (fun h=>?_) (fun h=>?_))))
  rfl
end Go.Proofs.YtijdbjjkfkjihaaGreatDoor

/- A file is read. Conditions: none. -/
namespace Go.Proofs.YtijdbjjkfkjihaaGreatDoor
open Go.Sy
set_option maxRecDepth 100000
set_option linter.all false
def secI (f : Int → List UInt8) (x : Ino) (k : Nat) : List (List UInt8) := [f (40 + x.b0), f (40 + x.b1), f (40 + x.b2), f (40 + x.b3)].take k
def rdA (E : D) (p : List UInt8) (f : Int → List UInt8) (x : Ino) (n : Nat) (k : Nat) : S := ⟨[(0, .d (.fp 1 [E])), (1, .d (.st p)), (7, .ptr 1 0), (9, .ts 32 ((secI f x k).map encS) 3), (28, .ms 1 1 2 n 4), (29, .d (.it .i64 n)), (30, .d (.it .i64 k))], [(1, .cells 6 ((encI x).map .d)), (3, .tail 60 true)], 4⟩
set_option maxHeartbeats 4000000 in
theorem fsread_ok (hga : ∀ (l : List (List UInt8)) (n : Int), (∀ s ∈ l, s.length = 32) → l.length ≤ 4 → 0 ≤ n → n ≤ 32 * (l.length : Int) → FnC Tryz.prog 57 [.d (.fs 32 (l.map encS)), .d (.it .i64 n)] (.tup [.d (.fs 1 (bytesD (l.flatten.take n.toNat))), .d (.bl true)]))
    (dk : Dk) (hd : DkOK (some dk)) (p : List UInt8) (hp : p.length ≤ 100000) (m : Int) (hm : lookP (rdS (some dk)) p = (m, 0)) (h1 : (inoAt (rdS (some dk)) m).k = 1) : FnC Tryz.prog 26 [.d (.fp 1 [encD (some dk)]), .d (.st p)] (.tup [.d (.fs 1 (bytesD (dataV (rdS (some dk)) (inoAt (rdS (some dk)) m)))), .d (.it .i64 0)]) := by
  have hf := file_ok dk hd p hp m hm h1
  have hl := fun n => rdS_len hd n
  have hs := fun b hb => fssec_ok dk hd b hb
  have hx := inoAt_RI (rdS (some dk)) m
  generalize inoAt (rdS (some dk)) m = x at *
  generalize rdS (some dk) = f at *
  generalize encD (some dk) = E at *
  have hz : 0 ≤ x.z ∧ x.z ≤ 128 := by rcases hx with h | h <;> omega
  have hnd := fsneed_ok x.z (by omega)
  obtain ⟨n, hn⟩ : ∃ n : Nat, (x.z + 31) / 32 = (n : Int) := ⟨((x.z + 31) / 32).toNat, by omega⟩
  rw [hn] at hnd
  have hn4 : n ≤ 4 := by omega
  refine FnC.intro ti_ok Tryz.func26 rfl Tryz.ntmps26 Tryz.call26 rfl (Nat.le_of_ble_eq_true rfl) rfl ?_
  (repeat' ((conv=>whnf);first|with_reducible refine gA ?_|((with_reducible refine callE_id ?_); first | (refine CallE.con ⟨_, hf, ?_⟩) | (refine CallE.con ⟨_, hnd, ?_⟩))|(with_reducible first|refine gB ?_|refine gZ (fun x hx hu=>?_)|refine gY (fun x hx=>?_)|refine gE ?_|refine Both.mk ?_ ?_|refine gS (fun h=>?_) (fun h=>?_)|refine Spl.nt ?_|refine Spl.mk (fun h=>?_) (fun h=>?_))))
  refine loop_rule ti_ok (fun k : Nat => k ≤ n) (rdA E p f x n) (fun k => n - k) 0 (Nat.zero_le _) ⟨And.intro rfl (And.intro rfl (And.intro rfl (And.intro rfl (And.intro rfl (And.intro rfl (And.intro rfl trivial)))))), And.intro rfl (And.intro rfl trivial), rfl⟩ ?_
  intro k hk
  have hb : (-1000 ≤ x.b0 ∧ x.b0 ≤ 1000) ∧ (-1000 ≤ x.b1 ∧ x.b1 ≤ 1000) ∧ (-1000 ≤ x.b2 ∧ x.b2 ≤ 1000) ∧ (-1000 ≤ x.b3 ∧ x.b3 ≤ 1000) := by
    rcases hx with h | h
    · omega
    · refine ⟨?_, ?_, ?_, ?_⟩ <;> omega
  have hlen : ((secI f x k).map encS).length = k := by unfold secI; rw [List.length_map, List.length_take]; simp only [List.length_cons, List.length_nil]; omega
  have hseq : ∀ j, j < 4 → secI f x (j + 1) = secI f x j ++ [f (40 + blkI x j)] := fun j hj => by
    have hj' : j = 0 ∨ j = 1 ∨ j = 2 ∨ j = 3 := by omega
    rcases hj' with rfl | rfl | rfl | rfl <;> rfl
  rcases Nat.lt_or_ge k n with hkn | hkn
  · have hst := hseq k (by omega)
    have hls := hl (40 + blkI x k)
    match k, hkn, hlen, hst, hls with
    | 0, hkn, hlen, hst, hls =>
      have h0 := hs x.b0 hb.1
      (repeat' ((conv=>whnf);first|with_reducible refine gA ?_|((with_reducible refine callE_id ?_); first | (refine CallE.con ⟨_, h0, ?_⟩))|(with_reducible first|refine gB ?_|refine gZ (fun x hx hu=>?_)|refine gY (fun x hx=>?_)|refine gE ?_|refine Both.mk ?_ ?_|refine gS (fun h=>?_) (fun h=>?_)|refine Spl.nt ?_|refine Spl.mk (fun h=>?_) (fun h=>?_))))
      refine again 1 (by omega) (by dsimp only; omega) (And.intro rfl (And.intro rfl (And.intro rfl (And.intro (ts_eq ?_) (And.intro rfl (And.intro rfl (And.intro (it_eq (by omega)) trivial))))))) (And.intro rfl (And.intro rfl trivial)) rfl
      rw [hst, List.map_append]
      exact congrArg _ (chunk1 (by rw [encS_len]; exact hls))
    | 1, hkn, hlen, hst, hls =>
      have h0 := hs x.b1 hb.2.1
      (repeat' ((conv=>whnf);first|with_reducible refine gA ?_|((with_reducible refine callE_id ?_); first | (refine CallE.con ⟨_, h0, ?_⟩))|(with_reducible first|refine gB ?_|refine gZ (fun x hx hu=>?_)|refine gY (fun x hx=>?_)|refine gE ?_|refine Both.mk ?_ ?_|refine gS (fun h=>?_) (fun h=>?_)|refine Spl.nt ?_|refine Spl.mk (fun h=>?_) (fun h=>?_))))
      refine again 2 (by omega) (by dsimp only; omega) (And.intro rfl (And.intro rfl (And.intro rfl (And.intro (ts_eq ?_) (And.intro rfl (And.intro rfl (And.intro (it_eq (by omega)) trivial))))))) (And.intro rfl (And.intro rfl trivial)) rfl
      rw [hst, List.map_append]
      exact congrArg _ (chunk1 (by rw [encS_len]; exact hls))
    | 2, hkn, hlen, hst, hls =>
      have h0 := hs x.b2 hb.2.2.1
      (repeat' ((conv=>whnf);first|with_reducible refine gA ?_|((with_reducible refine callE_id ?_); first | (refine CallE.con ⟨_, h0, ?_⟩))|(with_reducible first|refine gB ?_|refine gZ (fun x hx hu=>?_)|refine gY (fun x hx=>?_)|refine gE ?_|refine Both.mk ?_ ?_|refine gS (fun h=>?_) (fun h=>?_)|refine Spl.nt ?_|refine Spl.mk (fun h=>?_) (fun h=>?_))))
      refine again 3 (by omega) (by dsimp only; omega) (And.intro rfl (And.intro rfl (And.intro rfl (And.intro (ts_eq ?_) (And.intro rfl (And.intro rfl (And.intro (it_eq (by omega)) trivial))))))) (And.intro rfl (And.intro rfl trivial)) rfl
      rw [hst, List.map_append]
      exact congrArg _ (chunk1 (by rw [encS_len]; exact hls))
    | 3, hkn, hlen, hst, hls =>
      have h0 := hs x.b3 hb.2.2.2
      (repeat' ((conv=>whnf);first|with_reducible refine gA ?_|((with_reducible refine callE_id ?_); first | (refine CallE.con ⟨_, h0, ?_⟩))|(with_reducible first|refine gB ?_|refine gZ (fun x hx hu=>?_)|refine gY (fun x hx=>?_)|refine gE ?_|refine Both.mk ?_ ?_|refine gS (fun h=>?_) (fun h=>?_)|refine Spl.nt ?_|refine Spl.mk (fun h=>?_) (fun h=>?_))))
      refine again 4 (by omega) (by dsimp only; omega) (And.intro rfl (And.intro rfl (And.intro rfl (And.intro (ts_eq ?_) (And.intro rfl (And.intro rfl (And.intro (it_eq (by omega)) trivial))))))) (And.intro rfl (And.intro rfl trivial)) rfl
      rw [hst, List.map_append]
      exact congrArg _ (chunk1 (by rw [encS_len]; exact hls))
    | k + 4, hkn, hlen, hst, hls => omega
  · obtain rfl : k = n := by omega
    have hsl : (secI f x k).length = k := by unfold secI; rw [List.length_take]; simp only [List.length_cons, List.length_nil]; omega
    have hg := hga (secI f x k) x.z (fun s hs' => by
      have := List.mem_of_mem_take hs'
      simp only [List.mem_cons, List.not_mem_nil, or_false] at this
      rcases this with rfl | rfl | rfl | rfl <;> exact hl _) (by omega) hz.1 (by omega)
    have hdat : (secI f x k).flatten.take x.z.toNat = dataV f x := by
      have e : [f (40 + x.b0), f (40 + x.b1), f (40 + x.b2), f (40 + x.b3)].flatten = f (40 + x.b0) ++ f (40 + x.b1) ++ f (40 + x.b2) ++ f (40 + x.b3) := by simp
      have h0 := hl (40 + x.b0)
      have h1 := hl (40 + x.b1)
      have h2 := hl (40 + x.b2)
      have h3 := hl (40 + x.b3)
      unfold dataV
      have hk' : k = 0 ∨ k = 1 ∨ k = 2 ∨ k = 3 ∨ k = 4 := by omega
      unfold secI
      rcases hk' with rfl | rfl | rfl | rfl | rfl
      · have : x.z.toNat = 0 := by omega
        rw [this]; rfl
      · show ([f (40 + x.b0)].flatten).take _ = _
        rw [List.append_assoc, List.append_assoc, List.take_append_of_le_length (by omega)]
        simp
      · show ([f (40 + x.b0), f (40 + x.b1)].flatten).take _ = _
        rw [List.append_assoc, List.take_append_of_le_length (by rw [List.length_append]; omega)]
        simp
      · show ([f (40 + x.b0), f (40 + x.b1), f (40 + x.b2)].flatten).take _ = _
        rw [List.take_append_of_le_length (by rw [List.length_append, List.length_append]; omega)]
        simp
      · show ([f (40 + x.b0), f (40 + x.b1), f (40 + x.b2), f (40 + x.b3)].flatten).take _ = _
        rw [e]
    rw [hdat] at hg
    generalize dataV f x = L at *
    have hll : L.length ≤ 128 := by
      rw [← hdat, List.length_take]; omega
    (repeat' ((conv=>whnf);first|with_reducible refine gA ?_|((with_reducible refine callE_id ?_); first | (refine CallE.con ⟨_, hg, ?_⟩) | refine CallE.inl ?_) | with_reducible refine CallI.inl ti_ok i58 rfl ?_|(with_reducible first|refine gB ?_|refine gZ (fun x hx hu=>?_)|refine gY (fun x hx=>?_)|refine gE ?_|refine Both.mk ?_ ?_|refine gS (fun h=>?_) (fun h=>?_)|refine Spl.nt ?_|refine Spl.mk (fun h=>?_) (fun h=>?_))))
    all_goals first | rfl | (obtain rfl : L = [] := (by cases L with | nil => rfl | cons => (rename_i h _; cases h)); rfl) | (cases L with | nil => rfl | cons => (exfalso; simp [bytesD] at *))
end Go.Proofs.YtijdbjjkfkjihaaGreatDoor

/- The first bytes of sectors, gathered in a buffer: the walk, given what the buffer's functions do. Conditions: those named. -/
namespace Go.Proofs.YtijdbjjkfkjihaaGreatDoor
open Go.RowKit
/-- What (*Buffer).Write does. -/
def WriteC : Prop := ∀ (B b : Nat) (bs cs : List Value) (a : Addr) (n c : Nat) (w : World), Lib.IsBuffer 156 5 B b bs w → B ≤ w.heap.size → (∀ v ∈ bs, v.oneCell' = true) → cs.length = n → a.block < B →
  (∀ j v, cs[j]? = some v → w.cell? (a.add j) = some v) → (∀ v ∈ cs, v.oneCell' = true) → bs.length + n ≤ 140737488355328 →
  Calls Tryz.prog 95 #[.pointer (some ⟨b, 0, none⟩), .slice (some a) n c] w fun e w' => e = .returned (.tuple #[.int .i64 n, .nilIface]) ∧ Lib.IsBuffer 156 5 B b (bs ++ cs) w' ∧ Below B w w'
/-- What (*Buffer).Bytes does. -/
def BytesC : Prop := ∀ (B b : Nat) (bs : List Value) (w : World), Lib.IsBuffer 156 5 B b bs w →
  Calls Tryz.prog 96 #[.pointer (some ⟨b, 0, none⟩)] w fun e w' => ∃ v, e = .returned v ∧ w'.ownsRow B 5 1 v bs.length bs ∧ ∃ n, w' = w.drewN n
theorem slot_cells (w : World) (bk off : Nat) (xs : List UInt8) (k len : Nat) (hk : k < len) (hx : xs.length = 32 * len) (hc : ∀ j, j < 32 * len → w.cell? ⟨bk, off + j, none⟩ = some (.int .u8 ((xs.getD j 0).toNat : Int))) :
    ∀ j v, (Lib.byteCells ((xs.drop (32 * k)).take 32))[j]? = some v → w.cell? ((⟨bk, off + k * 32, none⟩ : Addr).add j) = some v := by
  intro j v hj
  have hl : ((xs.drop (32 * k)).take 32).length = 32 := by rw [List.length_take, List.length_drop]; omega
  have hjl : j < 32 := by
    have h5 := (List.getElem?_eq_some_iff.1 hj).1
    rw [Lib.byteCells_length, hl] at h5; exact h5
  have h1 := hc (32 * k + j) (by omega)
  rw [Lib.addr_add, show off + k * 32 + j = off + (32 * k + j) by omega, h1, ← hj]
  unfold Lib.byteCells
  rw [List.getElem?_map, List.getElem?_take, if_pos hjl, List.getElem?_drop, List.getD_eq_getElem?_getD, List.getElem?_eq_getElem (by omega)]
  rfl
set_option maxRecDepth 100000 in
theorem slice_54 (a : Option Addr) (l c m : Nat) (hm : m ≤ c) (w : World) : (Instr.slice 54 (.slice a l c) none (some (.int .i64 (m : Int))) none).run Tryz.prog w = .ok (.slice a m c) w := by
  refine (run_slice_h (P := Tryz.prog) w 54 a l c Tryz.underlying54 .i64 m (by omega) (by omega)).trans ?_
  show ((sizeOf 5).run Tryz.prog w).andThen _ = _
  rw [Tryz.sizeOf5]
  cases a <;> simp [Result.andThen, sliced, Addr.add]
set_option maxHeartbeats 8000000 in
set_option maxRecDepth 1000000 in
theorem gather_pos (hW : WriteC) (hB : BytesC) (ad : Option Addr) (bk off len cap : Nat) (xs : List UInt8) (n : Nat) (w : World) (hlen : len ≤ 1000) (hx : xs.length = 32 * len) (hn : n ≤ 32 * len)
    (had : 0 < len → ad = some ⟨bk, off, none⟩ ∧ bk < w.heap.size) (hc : ∀ j, j < 32 * len → w.cell? ⟨bk, off + j, none⟩ = some (.int .u8 ((xs.getD j 0).toNat : Int))) (Q : Ending → World → Prop)
    (hC : ∀ (w3 : World) (a : Option Addr) (cap : Nat), Below w.heap.size w w3 → w3.ownsRow w.heap.size 5 1 (.slice a (32 * len) cap) (32 * len) (Lib.byteCells xs) → n ≤ cap →
      Calls Tryz.prog 58 #[.slice a n cap] w3 fun e w' => ∃ r, e = .returned r ∧ Q (.returned (.tuple #[r, .bool true])) w') :
    Calls Tryz.prog 57 #[.slice ad len cap, .int .i64 n] w Q := by
  have hn32 : ¬ (32 * (len : Int) < (n : Int)) := by omega
  go_enter Tryz.func57, Tryz.ntmps57
  go_wp2
  go_loopw [19] (fun i wr => ∃ k : Nat, k ≤ len ∧ i = .int .i64 k ∧ Lib.IsBuffer 156 5 w.heap.size w.heap.size (Lib.byteCells (xs.take (32 * k))) wr ∧ Below w.heap.size w wr) (fun i _ => len - (intOf i).toNat)
  case atStart => exact ⟨0, Nat.zero_le _, rfl, Lib.fresh_isBuffer 156 5 w, (Below.refl _ w).alloc (Nat.le_refl _) _⟩
  case round =>
    obtain ⟨k, hk, rfl, hI, hb⟩ := hrel
    rcases Nat.lt_or_ge k len with hkl | hkl
    · obtain ⟨rfl, hbk⟩ := had (by omega)
      have hl : ((xs.drop (32 * k)).take 32).length = 32 := by rw [List.length_take, List.length_drop]; omega
      have hsl := slot_cells wr bk off xs k len hkl hx (fun j hj => (hb.cell (p := ⟨bk, off + j, none⟩) hbk).trans (hc j hj))
      have hk0 : (Lib.byteCells (xs.take (32 * k))).length + 32 ≤ 140737488355328 := by rw [Lib.byteCells_length, List.length_take]; omega
      have hcall := hW w.heap.size w.heap.size (Lib.byteCells (xs.take (32 * k))) (Lib.byteCells ((xs.drop (32 * k)).take 32)) ⟨bk, off + k * 32, none⟩ 32 32 wr hI hb.size (Lib.byteCells_one _) (by rw [Lib.byteCells_length, hl]) hbk hsl (Lib.byteCells_one _) hk0
      clear hsl
      go_wp2_with (go_at_call 95; refine hcall.mono ?_; rintro e W1 ⟨rfl, h1, b1⟩)
      refine ⟨⟨k + 1, by omega, by simp, ?_, hb.trans b1⟩, by simp [intOf]; omega⟩
      rw [← Lib.byteCells_append, ← List.take_add] at h1
      rwa [show 32 * (k + 1) = 32 * k + 32 by omega]
    · obtain rfl : k = len := by omega
      rw [List.take_of_length_le (by omega)] at hI
      have hcall := hB w.heap.size w.heap.size (Lib.byteCells xs) wr hI
      have hbl : (Lib.byteCells xs).length = 32 * k := by rw [Lib.byteCells_length, hx]
      rw [hbl] at hcall
      go_wp2_with (go_at_call 96; refine hcall.mono ?_; rintro e W1 ⟨v, rfl, ho, q, rfl⟩)
      have hb' : Below w.heap.size w (wr.drewN q) := hb.trans ⟨rfl, rfl, rfl, Nat.le_refl _, fun _ _ => rfl⟩
      rcases ho with ⟨ho1, ⟨rfl, h0⟩ | ⟨gb, c, cur, rfl, ho2, ho3, ho4, ho5, ho6, ho7⟩⟩
      · have hn0 : n = 0 := by omega
        subst hn0
        have hcl := hC (wr.drewN q) none 0 hb' ⟨ho1, .inl ⟨by rw [h0], h0⟩⟩ (Nat.le_refl _)
        have hs5 : ∀ w', (Instr.slice 54 (.slice none 0 0) none (some (.int .i64 ((0 : Nat) : Int))) none).run Tryz.prog w' = .ok (.slice none 0 0) w' := slice_54 none 0 0 0 (Nat.le_refl _)
        go_wp2
        rw [hs5]
        go_wp2_with (go_at_call 58; refine hcl.mono ?_; rintro e W2 ⟨r, rfl, hq⟩)
        go_wp2
        exact hq
      · have hcl := hC (wr.drewN q) (some ⟨gb, 0, none⟩) c hb' ⟨ho1, .inr ⟨gb, c, cur, rfl, ho2, ho3, ho4, ho5, ho6, ho7⟩⟩ (by omega)
        have hnc : n ≤ c := by omega
        have hs5 : ∀ w', (Instr.slice 54 (.slice (some ⟨gb, 0, none⟩) (32 * k) c) none (some (.int .i64 (n : Int))) none).run Tryz.prog w' = .ok (.slice (some ⟨gb, 0, none⟩) n c) w' := slice_54 (some ⟨gb, 0, none⟩) (32 * k) c n hnc
        go_wp2
        rw [hs5]
        go_wp2_with (go_at_call 58; refine hcl.mono ?_; rintro e W2 ⟨r, rfl, hq⟩)
        go_wp2
        exact hq
end Go.Proofs.YtijdbjjkfkjihaaGreatDoor

/- Contracts of the library at this program (laid by the shelf tool), those that are used. Conditions: none. -/
namespace Go.Proofs
open Go.Shelf
def Tryz.laysM183_ren : Go.Shelf.Ren := ⟨fun | 183 => 96 | n => n, fun | 130 => 179 | 37 => 54 | 0 => 0 | 93 => 156 | 3 => 3 | 5 => 5 | 91 => 154 | n => n, fun | n => n⟩
theorem Tryz.laysM183 : Go.Proofs.LaysM.n183 Tryz.prog Tryz.laysM183_ren := {
  mixed := by kernel_rfl
  f183 := Tryz.func96.trans (congrArg some (by kernel_rfl))
  t0 := Tryz.underlying0
  a0 := Tryz.isAgg0
  z0 := Tryz.sizeOf0
  v0 := Tryz.zeroValue0
  t3 := Tryz.underlying3
  a3 := Tryz.isAgg3
  z3 := Tryz.sizeOf3
  v3 := Tryz.zeroValue3
  t37 := Tryz.underlying54
  a37 := Tryz.isAgg54
  z37 := Tryz.sizeOf54
  v37 := Tryz.zeroValue54
  t93 := Tryz.underlying156
  a93 := Tryz.isAgg156
  z93 := Tryz.sizeOf156
  v93 := Tryz.zeroValue156
  t130 := Tryz.underlying179
  a130 := Tryz.isAgg179
  z130 := Tryz.sizeOf179
  v130 := Tryz.zeroValue179
  t5 := Tryz.underlying5
  a5 := Tryz.isAgg5
  z5 := Tryz.sizeOf5
  v5 := Tryz.zeroValue5
  t91 := Tryz.underlying154
  a91 := Tryz.isAgg154
  z91 := Tryz.sizeOf154
  v91 := Tryz.zeroValue154
  i0 := by kernel_rfl
  i3 := by kernel_rfl
  i5 := by kernel_rfl
  i37 := by kernel_rfl
  i91 := by kernel_rfl
  i93 := by kernel_rfl
  i130 := by kernel_rfl }
open Go.RowKit in
/-- (*bytes.Buffer).Bytes: "Bytes returns a slice of length b.Len() holding the unread portion of the buffer. .. The slice aliases the buffer content at least until the next buffer modification": A SLICE THAT OWNS THE CELLS bs ('World.ownsRow': nil where nothing was ever written). The world is as it was but for the count of draws. (LAID: no walk: one application.) -/
theorem Tryz.Buffer_Bytes (B b : Nat) (bs : List Value) (w : World) (h : Lib.IsBuffer 156 5 B b bs w) :
    Calls Tryz.prog 96 #[.pointer (some ⟨b, 0, none⟩)] w fun e w' => ∃ v, e = .returned v ∧ w'.ownsRow B 5 1 v bs.length bs ∧ ∃ n, w' = w.drewN n := Any.Buffer_Bytes Tryz.laysM183 B b bs w h
def Tryz.laysM180_ren : Go.Shelf.Ren := ⟨fun | 180 => 95 | 251 => 117 | 252 => 118 | 181 => 152 | 184 => 153 | 290 => 154 | 324 => 182 | n => n, fun | 130 => 179 | 37 => 54 | 3 => 3 | 75 => 81 | 0 => 0 | 93 => 156 | 91 => 154 | 131 => 115 | 4 => 4 | 20 => 20 | 5 => 5 | 80 => 83 | 9 => 9 | n => n, fun | 14 => 1 | n => n⟩
theorem Tryz.laysM180 : Go.Proofs.LaysM.n180 Tryz.prog Tryz.laysM180_ren := {
  mixed := by kernel_rfl
  f180 := Tryz.func95.trans (congrArg some (by kernel_rfl))
  f181 := Tryz.func152.trans (congrArg some (by kernel_rfl))
  f184 := Tryz.func153.trans (congrArg some (by kernel_rfl))
  f251 := Tryz.func117.trans (congrArg some (by kernel_rfl))
  f252 := Tryz.func118.trans (congrArg some (by kernel_rfl))
  f290 := Tryz.func154.trans (congrArg some (by kernel_rfl))
  f324 := Tryz.func182.trans (congrArg some (by kernel_rfl))
  t0 := Tryz.underlying0
  a0 := Tryz.isAgg0
  z0 := Tryz.sizeOf0
  v0 := Tryz.zeroValue0
  t3 := Tryz.underlying3
  a3 := Tryz.isAgg3
  z3 := Tryz.sizeOf3
  v3 := Tryz.zeroValue3
  t4 := Tryz.underlying4
  a4 := Tryz.isAgg4
  z4 := Tryz.sizeOf4
  v4 := Tryz.zeroValue4
  t20 := Tryz.underlying20
  a20 := Tryz.isAgg20
  z20 := Tryz.sizeOf20
  v20 := Tryz.zeroValue20
  t37 := Tryz.underlying54
  a37 := Tryz.isAgg54
  z37 := Tryz.sizeOf54
  v37 := Tryz.zeroValue54
  t75 := Tryz.underlying81
  a75 := Tryz.isAgg81
  z75 := Tryz.sizeOf81
  v75 := Tryz.zeroValue81
  t91 := Tryz.underlying154
  a91 := Tryz.isAgg154
  z91 := Tryz.sizeOf154
  v91 := Tryz.zeroValue154
  t93 := Tryz.underlying156
  a93 := Tryz.isAgg156
  z93 := Tryz.sizeOf156
  v93 := Tryz.zeroValue156
  t130 := Tryz.underlying179
  a130 := Tryz.isAgg179
  z130 := Tryz.sizeOf179
  v130 := Tryz.zeroValue179
  t131 := Tryz.underlying115
  a131 := Tryz.isAgg115
  z131 := Tryz.sizeOf115
  v131 := Tryz.zeroValue115
  g14 := by kernel_rfl
  t5 := Tryz.underlying5
  a5 := Tryz.isAgg5
  z5 := Tryz.sizeOf5
  v5 := Tryz.zeroValue5
  t9 := Tryz.underlying9
  a9 := Tryz.isAgg9
  z9 := Tryz.sizeOf9
  v9 := Tryz.zeroValue9
  t80 := Tryz.underlying83
  a80 := Tryz.isAgg83
  z80 := Tryz.sizeOf83
  v80 := Tryz.zeroValue83
  i0 := by kernel_rfl
  i3 := by kernel_rfl
  i4 := by kernel_rfl
  i5 := by kernel_rfl
  i9 := by kernel_rfl
  i20 := by kernel_rfl
  i37 := by kernel_rfl
  i75 := by kernel_rfl
  i80 := by kernel_rfl
  i91 := by kernel_rfl
  i93 := by kernel_rfl
  i130 := by kernel_rfl
  i131 := by kernel_rfl
  m14 := by kernel_rfl }
open Go.RowKit in
theorem Tryz.Buffer_Write_k (B b : Nat) (bs cs : List Value) (a : Addr) (n c : Nat) (w : World) (h : Lib.IsBuffer 156 5 B b bs w) (hBw : B ≤ w.heap.size) (h1 : ∀ v ∈ bs, v.oneCell' = true) (hn : cs.length = n) (haB : a.block < B) (hsrc : ∀ j v, cs[j]? = some v → w.cell? (a.add j) = some v) (h1c : ∀ v ∈ cs, v.oneCell' = true) (hlim : bs.length + n ≤ 140737488355328) :
    Calls Tryz.prog 95 #[.pointer (some ⟨b, 0, none⟩), .slice (some a) n c] w fun e w' => e = .returned (.tuple #[.int .i64 n, .nilIface]) ∧ Lib.IsBuffer 156 5 B b (bs ++ cs) w' ∧ Below B w w' ∧ Lib.OthersKept 5 (some b) w w' := Any.Buffer_Write_k Tryz.laysM180 B b bs cs a n c w h hBw h1 hn haB hsrc h1c hlim
end Go.Proofs

/- The first bytes of sectors, gathered. Conditions: none. -/
namespace Go.Proofs.YtijdbjjkfkjihaaGreatDoor
open Go.Sy
set_option maxRecDepth 100000
set_option linter.all false
theorem writeC : WriteC := fun B b bs cs a n c w h hBw h1 hn haB hsrc h1c hlim =>
  (Tryz.Buffer_Write_k B b bs cs a n c w h hBw h1 hn haB hsrc h1c hlim).mono fun e w' ⟨a1, a2, a3, _⟩ => ⟨a1, a2, a3⟩
theorem bytesC : BytesC := fun B b bs w h => Tryz.Buffer_Bytes B b bs w h
theorem clone_ok (L : List UInt8) (hL : L.length ≤ 100000) : FnC Tryz.prog 58 [.d (.fs 1 (bytesD L))] (.d (.fs 1 (bytesD L))) := by
  have hl : (bytesD L).length = L.length := bytesD_l L
  by_cases h0 : L = []
  · subst h0
    refine FnC.intro ti_ok Tryz.func58 rfl Tryz.ntmps58 Tryz.call58 rfl (Nat.le_of_ble_eq_true rfl) rfl ?_
    (repeat' ((conv=>whnf);first|with_reducible refine gA ?_|(with_reducible first|refine gB ?_|refine gZ (fun x hx hu=>?_)|refine gY (fun x hx=>?_)|refine gE ?_|refine Both.mk ?_ ?_|refine gS (fun h=>?_) (fun h=>?_)|refine Spl.nt ?_|refine Spl.mk (fun h=>?_) (fun h=>?_))))
    all_goals exact rfl
  · have hne : (bytesD L).isEmpty = false := by cases L with | nil => exact absurd rfl h0 | cons => rfl
    refine FnC.intro ti_ok Tryz.func58 rfl Tryz.ntmps58 Tryz.call58 rfl (Nat.le_of_ble_eq_true rfl) rfl ?_
    (repeat' ((conv=>whnf);first|with_reducible refine gA ?_|with_reducible refine Spl.no hne ?_|(with_reducible first|refine gB ?_|refine gZ (fun x hx hu=>?_)|refine gY (fun x hx=>?_)|refine gE ?_|refine Both.mk ?_ ?_|refine gS (fun h=>?_) (fun h=>?_)|refine Spl.nt ?_|refine Spl.mk (fun h=>?_) (fun h=>?_))))
    exact rfl
theorem secs_flat (l : List (List UInt8)) : (l.map encS).flatten = encS l.flatten := by
  unfold encS; rw [List.map_flatten]
theorem secs_len {l : List (List UInt8)} (h : ∀ s ∈ l, s.length = 32) : l.flatten.length = 32 * l.length := by
  induction l with
  | nil => rfl
  | cons a t ih => rw [List.flatten_cons, List.length_append, h a List.mem_cons_self, ih fun s hs => h s (List.mem_cons_of_mem _ hs), List.length_cons]; omega
theorem step_calls {vs : Array Value} {w : World} {Q : Ending → World → Prop} (h : Step Tryz.prog 58 vs w Q) : Calls Tryz.prog 58 vs w Q := by
  rcases h with ⟨_, h⟩ | ⟨v, w', h, _⟩
  · exact h
  · rw [Tryz.call58] at h; cases h
/-- Frozen, the bytes of a row. -/
def rowF (F : Nat → Nat → Option Value) (gb : Nat) (xs : List UInt8) : Nat → Nat → Option Value := fun b o => if b = gb then (if o < xs.length then some (.int .u8 ((xs.getD o 0).toNat : Int)) else none) else F b o
theorem row_dr (F : Nat → Nat → Option Value) (gb : Nat) (xs : List UInt8) (n cap : Nat) (hn : n ≤ xs.length) (hc : n ≤ cap) : DR (rowF F gb xs) (.fs 1 (bytesD (xs.take n))) (.slice (some ⟨gb, 0, none⟩) n cap) := by
  have hl : (bytesD (xs.take n)).length = n := by rw [bytesD_l, List.length_take]; omega
  have hg : ∀ i (h : i < (bytesD (xs.take n)).length), (bytesD (xs.take n))[i] = [D.it .u8 ((xs.getD i 0).toNat : Int)] := fun i h => by
    have hi : i < xs.length := by omega
    unfold bytesD
    rw [List.getElem_map, List.getElem_take, List.getD_eq_getElem?_getD, List.getElem?_eq_getElem hi]
    rfl
  refine .fs 1 _ gb 0 n cap (fun i _ => .int .u8 ((xs.getD i 0).toNat : Int)) hl hc (fun i h => by rw [hg i h]; rfl) (fun i j hi hj => ?_) (fun i h j hj => ?_)
  · have hj0 : j = 0 := by omega
    subst hj0
    unfold rowF
    rw [if_pos rfl, if_pos (by omega)]
    congr 5
    omega
  · have := hg i h
    have hj0 : j = 0 := by rw [this] at hj; simpa using hj
    subst hj0
    have e : (bytesD (xs.take n))[i][0] = D.it .u8 ((xs.getD i 0).toNat : Int) := by simp only [this, List.getElem_cons_zero]
    rw [e]
    exact .it _ _
theorem gather_ok (l : List (List UInt8)) (n : Int) (hl : ∀ s ∈ l, s.length = 32) (h4 : l.length ≤ 1000) (h0 : 0 ≤ n) (hn : n ≤ 32 * (l.length : Int)) :
    FnC Tryz.prog 57 [.d (.fs 32 (l.map encS)), .d (.it .i64 n)] (.tup [.d (.fs 1 (bytesD (l.flatten.take n.toNat))), .d (.bl true)]) := by
  refine ⟨rfl, fun g w vs hfz hsz hav => .inl ⟨Tryz.call57 vs w, ?_⟩⟩
  have hx := secs_len hl
  have hN : n = ((n.toNat : Nat) : Int) := by omega
  have hm : n.toNat ≤ 32 * l.length := by omega
  generalize n.toNat = m at *
  subst hN
  have h1 := hav 0 (Nat.zero_lt_succ _)
  have h2 := hav 1 (Nat.one_lt_succ_succ 0)
  rw [arr2 hsz]
  generalize vs.getD 0 undef = v0 at *
  generalize vs.getD 1 undef = v1 at *
  obtain rfl : v1 = .int .i64 (m : Int) := by cases h2 with | d _ _ h => cases h; rfl
  obtain ⟨ad, bk, off, cap, rfl, had, hc⟩ : ∃ (ad : Option Addr) (bk off cap : Nat), v0 = .slice ad l.length cap ∧ (0 < l.length → ad = some ⟨bk, off, none⟩ ∧ bk < w.heap.size) ∧
      ∀ j, j < 32 * l.length → w.cell? ⟨bk, off + j, none⟩ = some (.int .u8 ((l.flatten.getD j 0).toNat : Int)) := by
    have h1' : DR g.F (.fs 32 (l.map encS)) v0 := by cases h1 with | d _ _ h => exact h
    have hml : (l.map encS).length = l.length := List.length_map ..
    generalize he : l.map encS = es at *
    cases h1' with
    | fs0 _ a cap =>
      obtain rfl : l = [] := by cases l with | nil => rfl | cons => cases he
      exact ⟨a, 0, 0, cap, rfl, fun h => absurd h (by decide), fun j hj => by simp at hj⟩
    | fs _ _ b off len cap us hlen hcap hs hF hr =>
      have hcell : ∀ j, j < 32 * l.length → w.cell? ⟨b, off + j, none⟩ = some (.int .u8 ((l.flatten.getD j 0).toNat : Int)) := by
        intro j hj
        have hi : j / 32 < es.length := by omega
        have hjl : j % 32 < es[j / 32].length := by rw [hs _ hi]; omega
        have e1 := hF (j / 32) (j % 32) (by omega) (by omega)
        have e2 := hr (j / 32) hi (j % 32) hjl
        have e3 := flat_get (fun x hx => by obtain ⟨i, hi, rfl⟩ := List.getElem_of_mem hx; exact hs i hi) (j / 32) (j % 32) hi hjl
        have e0 : es.flatten = encS l.flatten := by rw [← he]; exact secs_flat l
        rw [e0, show j / 32 * 32 + j % 32 = j by omega] at e3
        unfold encS at e3
        rw [List.getElem?_map, List.getElem?_eq_getElem (by omega)] at e3
        have e4 := Option.some.inj e3
        rw [← e4] at e2
        rw [show off + j / 32 * 32 + j % 32 = off + j by omega] at e1
        rw [hfz _ _ _ e1]
        generalize us (j / 32) (j % 32) = u at *
        cases e2
        rw [List.getD_eq_getElem?_getD, List.getElem?_eq_getElem (by omega)]
        rfl
      obtain rfl : len = l.length := by omega
      refine ⟨some ⟨b, off, none⟩, b, off, cap, rfl, fun h => ⟨rfl, ?_⟩, hcell⟩
      exact World.block_lt_of_cell? w _ (hcell 0 (by omega))
  refine gather_pos writeC bytesC ad bk off l.length cap l.flatten m w (by omega) hx hm had hc _ fun w3 a cap3 hb ho hmc => ?_
  have hcl := clone_ok (l.flatten.take m) (by rw [List.length_take]; omega)
  have key : ∃ g2 : Gh, (∀ b o v, g.F b o = some v → g2.F b o = some v) ∧ (∀ b o v, g2.F b o = some v → g.F b o = some v ∨ w.heap.size ≤ b) ∧ (∀ b o v, g2.F b o = some v → w3.cell? ⟨b, o, none⟩ = some v) ∧ DR g2.F (.fs 1 (bytesD (l.flatten.take m))) (.slice a m cap3) := by
    rcases ho with ⟨ho1, ⟨e, h0'⟩ | ⟨gb, c, cur, e, ho2, ho3, ho4, ho5, ho6, ho7⟩⟩
    · obtain rfl : m = 0 := by omega
      exact ⟨g, fun _ _ _ h => h, fun _ _ _ h => .inl h, fun b o v h => (hb.cell (p := ⟨b, o, none⟩) (World.block_lt_of_cell? w _ (hfz b o v h))).trans (hfz b o v h), .fs0 1 _ _⟩
    · cases e
      have hold : ∀ b o v, g.F b o = some v → b < w.heap.size := fun b o v h => World.block_lt_of_cell? w _ (hfz b o v h)
      refine ⟨{ g with F := rowF g.F gb l.flatten }, fun b o v h => ?_, fun b o v h => ?_, fun b o v h => ?_, row_dr g.F gb l.flatten m cap3 (by omega) hmc⟩
      · have := hold b o v h
        show rowF g.F gb l.flatten b o = some v
        unfold rowF
        rw [if_neg (by omega)]; exact h
      · have h : rowF g.F gb l.flatten b o = some v := h
        unfold rowF at h
        by_cases hbg : b = gb
        · right; omega
        · rw [if_neg hbg] at h; exact .inl h
      · have h' : rowF g.F gb l.flatten b o = some v := h
        clear h
        unfold rowF at h'
        by_cases hbg : b = gb
        · rw [if_pos hbg] at h'
          by_cases hol : o < l.flatten.length
          · rw [if_pos hol] at h'
            obtain rfl := Option.some.inj h'
            subst hbg
            rw [Lib.cell_of_heap ho3]
            have this : (cur.toList.take (32 * l.length * 1))[o]? = (Lib.byteCells l.flatten)[o]? := by rw [ho7]
            rw [List.getElem?_take, if_pos (by omega)] at this
            rw [show cur[o]? = cur.toList[o]? from (Array.getElem?_toList ..).symm, this]
            unfold Lib.byteCells
            rw [List.getElem?_map, List.getD_eq_getElem?_getD, List.getElem?_eq_getElem hol]
            rfl
          · rw [if_neg hol] at h'; cases h'
        · rw [if_neg hbg] at h'
          exact (hb.cell (p := ⟨b, o, none⟩) (hold b o v h')).trans (hfz b o v h')
  obtain ⟨g2, k1, k2, k3, k4⟩ := key
  refine (step_calls (hcl.run g2 w3 #[.slice a m cap3] k3 rfl (fun j hj => ?_))).mono ?_
  · have hj0 : j = 0 := by simp at hj; omega
    subst hj0
    exact .d _ _ k4
  · rintro e w' ⟨r, g', rfl, q1, q2, q3, q4, q5, q6, q7, q8, q9⟩
    refine ⟨r, rfl, _, g', rfl, ?_, fun b o v h => q2 _ _ _ (k1 _ _ _ h), fun b o v h => ?_, q4, Nat.le_trans hb.size q5, fun b h => (q6 b (Nat.lt_of_lt_of_le h hb.size)).trans (hb.block b h), q7.trans hb.os, q8.trans hb.tape, q9.trans hb.output⟩
    · refine .tup _ _ rfl fun j hj => ?_
      have hj2 : j = 0 ∨ j = 1 := by simp at hj; omega
      rcases hj2 with rfl | rfl
      · exact q1
      · exact .d _ _ (.bl true)
    · rcases q3 b o v h with h | h
      · exact k2 _ _ _ h
      · exact .inr (Nat.le_trans hb.size h)
end Go.Proofs.YtijdbjjkfkjihaaGreatDoor

/- The law of finding: what a round sees. Conditions: none. -/
namespace Go.Proofs.YtijdbjjkfkjihaaGreatDoor
open Go.Sy
set_option maxRecDepth 100000
set_option linter.all false
theorem joinP_len : ∀ (l : List (List UInt8)), (∀ s ∈ l, nameB s = true) → (joinP l).length ≤ 9 * l.length
  | [], _ => Nat.le_refl _
  | s :: l, h => by
    have h1 := h s List.mem_cons_self
    have h2 := joinP_len l fun t ht => h t (List.mem_cons_of_mem _ ht)
    have h3 : s.length ≤ 8 := by
      unfold nameB at h1
      rw [Bool.and_eq_true] at h1
      exact (of_decide_eq_true h1.1).2.1
    have e : joinP (s :: l) = (47 :: s) ++ joinP l := rfl
    rw [e, List.length_append, List.length_cons, List.length_cons]
    omega
theorem look_len {f : Int → List UInt8} {p : List UInt8} {m : Int} (h : lookP f p = (m, 0)) : p.length ≤ 100000 := by
  have h0 : (splitP p).2 = 0 := by
    unfold lookP at h
    by_cases q : (splitP p).2 = 0
    · exact q
    · rw [if_neg q] at h; exact (Prod.ext_iff.1 h).2
  have e := join_splitP h0
  have hn := splitP_name p
  rw [← e]
  unfold joinR
  split
  · decide
  · have := joinP_len (splitP p).1 (by simpa using hn.2.1)
    omega
theorem callP_id {P : Program} {f : Nat} {args : List AV} {K : AV → Prop} (h : CallP P f args K) : CallP P f args K := h
theorem bytes_now {L : List UInt8} {K : List UInt8 → Prop} (h : K L) : ∃ l, bytesD L = bytesD l ∧ K l := ⟨L, rfl, h⟩
/-- One of the nodes told stands at the path p. -/
def thereB (t : List Nod) (p : List UInt8) (k : Nat) : Bool := (t.take k).any fun x => decide (x.p = p)
theorem thereB_step {t : List Nod} {p : List UInt8} {k : Nat} {x : Nod} (h : t[k]? = some x) : thereB t p (k + 1) = (thereB t p k || decide (x.p = p)) := by
  unfold thereB
  rw [take_snoc h, List.any_append]
  simp
theorem thereB_end {t : List Nod} {p : List UInt8} {k : Nat} (h : t.length ≤ k) : thereB t p k = true ↔ ∃ x ∈ t, x.p = p := by
  unfold thereB
  rw [List.take_of_length_le h, List.any_eq_true]
  simp
theorem at_prev {α : Type} {e : α → List D} {l : List α} {k : Nat} {x : α} {K : List D → Prop} (hk : 0 < k) (hx : l[k - 1]? = some x) (h : K (e x)) :
    (0 ≤ ((k : Int) - 1) ∧ ((k : Int) - 1) < (l.map e).length) ∧ ∀ c, (l.map e)[((k : Int) - 1).toNat]? = some c → K c := by
  have e1 : ((k : Int) - 1) = ((k - 1 : Nat) : Int) := by omega
  rw [e1]
  exact at_known hx h
/-- What holds of a node that is told. -/
structure NodOK (f : Int → List UInt8) (x : Nod) (m : Int) : Prop where
  look : lookP f x.p = (m, 0)
  kind : (inoAt f m).k = 1 ∧ x.d = false ∨ (inoAt f m).k = 2 ∧ x.d = true
  data : x.x = dataV f (inoAt f m)
theorem nod_ok {f : Int → List UInt8} (x : Nod) (h : ∃ m : Int, lookP f x.p = (m, 0) ∧ x.d = ((inoAt f m).k == 2) ∧ (inoAt f m).k ≠ 0 ∧ x.x = dataV f (inoAt f m) ∧ x.p ≠ [47]) : ∃ m, NodOK f x m := by
  obtain ⟨m, h1, h2, h3, h4, _⟩ := h
  refine ⟨m, h1, ?_, h4⟩
  have hr := inoAt_RI f m
  have hk : (inoAt f m).k = 1 ∨ (inoAt f m).k = 2 := by
    rcases hr with ⟨h | h, _⟩ | ⟨h, _⟩
    · exact absurd h h3
    · exact .inr h
    · exact .inl h
  rcases hk with hk | hk
  · left; rw [h2, hk]; exact ⟨rfl, rfl⟩
  · right; rw [h2, hk]; exact ⟨rfl, rfl⟩
def vfA (p : List UInt8) (E : D) (T : List Nod × Bool) (fa : AV) (e : Int) (x : Nat × Bool) : S :=
  ⟨[(2, .d (.st p)), (7, .d E), (8, .d (.fs 3 (T.1.map encN))), (9, .d (.bl T.2)), (10, fa), (13, .d (.it .i64 e)), (14, .d (.bl x.2)), (15, .d (.it .i64 x.1))], [], 0⟩
end Go.Proofs.YtijdbjjkfkjihaaGreatDoor

/- The law of finding, on a disk that is mounted. Conditions: none. -/
namespace Go.Proofs.YtijdbjjkfkjihaaGreatDoor
open Go.Sy
set_option maxRecDepth 100000
set_option linter.all false
set_option maxHeartbeats 8000000 in
theorem finds_m (m : List (List UInt8)) (hm : ImOK m) (ws : List Wr) (hw : WsOK ws) (p : List UInt8) (hml : m.length ≤ 200) (hwl : ws.length ≤ 40) (hpl : p.length ≤ 200) (dk : Dk) (hdk : dskOf m ws = some dk) (hmn : mntP (imgD (some dk))) :
    FnC Tryz.prog 6 [.d (encM m), .d (.fs 36 (ws.map encW)), .d (.st p)] (.d (.bl true)) := by
  have kk := knows14_ok
  have h1 : (m.map encS).length = m.length := List.length_map ..
  have h2 : (ws.map encW).length = ws.length := List.length_map ..
  have hd : DkOK (some dk) := hdk ▸ dsk_OK hm hw (by omega)
  have a1 := disk_ok m hm ws hw (by omega) (by omega)
  rw [hdk] at a1
  have a2 := tree_ok (some dk) hd
  have a3 := mount_ok (some dk) hd
  have a4 := lookup_ok (some dk) hd p (by omega)
  have a5 := fun x m => fun h : NodOK (rdS (some dk)) x m => lookup_ok (some dk) hd x.p (look_len h.look)
  have a6 := fun m => inode_ok (some dk) hd m
  have a7 := fun x m => fun (h : NodOK (rdS (some dk)) x m) h1 => fsread_ok (fun l n q1 q2 q3 q4 => gather_ok l n q1 (by omega) q3 q4) dk hd x.p (look_len h.look) m h.look h1
  obtain ⟨t1, t2, t3, t4, t5⟩ := tree_law (rdS (some dk))
  unfold mountV at a3
  rw [if_pos hmn] at a3
  unfold tupN at a2
  generalize rdS (some dk) = f at *
  have t6 := fun x (hx : x ∈ (treeV f).1) => nod_ok x (t3 x hx)
  generalize treeV f = T at *
  generalize hR : lookP f p = R at *
  unfold pairA at a4 a5
  generalize encD (some dk) = E at *
  obtain ⟨n0, e0⟩ := R
  have hTl : (T.1.map encN).length = T.1.length := List.length_map ..
  refine FnC.intro ti_ok Tryz.func6 rfl Tryz.ntmps6 Tryz.call6 rfl (Nat.le_of_ble_eq_true rfl) rfl ?_
  (repeat' ((conv=>whnf);first|with_reducible refine gA ?_|((with_reducible refine callE_id ?_); first | refine CallE.con ⟨_, kk, ?_⟩ | refine CallE.con ⟨_, a1, ?_⟩ | refine CallE.con ⟨_, a2, ?_⟩ | refine CallE.con ⟨_, a3, ?_⟩ | refine CallE.con ⟨_, a4, ?_⟩)|(with_reducible first|refine gB ?_|refine gZ (fun x hx hu=>?_)|refine gY (fun x hx=>?_)|refine gE ?_|refine Both.mk ?_ ?_|refine gS (fun h=>?_) (fun h=>?_)|refine Spl.nt ?_|refine Spl.mk (fun h=>?_) (fun h=>?_))))
  refine loop_rule ti_ok (fun x : Nat × Bool => x.1 ≤ T.1.length ∧ x.2 = thereB T.1 p x.1) (vfA p E T (.d (.fp 1 [E])) e0) (fun x => T.1.length - x.1) (0, false) ⟨Nat.zero_le _, rfl⟩ ⟨And.intro rfl (And.intro rfl (And.intro rfl (And.intro rfl (And.intro rfl (And.intro rfl (And.intro rfl (And.intro rfl trivial))))))), trivial, rfl⟩ ?_
  rintro ⟨k, b⟩ ⟨k1, k2⟩
  dsimp only at k1 k2
  rcases Nat.lt_or_ge k T.1.length with hkl | hkl
  · obtain ⟨x, hx⟩ := lt_get hkl
    obtain ⟨y, hy⟩ := lt_get (show k - 1 < T.1.length by omega)
    obtain ⟨j, hj⟩ := t6 x (List.mem_of_getElem? hx)
    have hb : 0 < k → FnC Tryz.prog 25 [.d (.st y.p), .d (.st x.p)] (.d (.bl true)) := fun h0 => by
      obtain ⟨_, hjy⟩ := t6 y (List.mem_of_getElem? hy)
      have := before_ok y.p x.p (look_len hjy.look) (look_len hj.look)
      have hp : befN (key y.p) (key x.p) = true := by
        obtain ⟨q1, e1⟩ := List.getElem?_eq_some_iff.1 hy
        obtain ⟨q2, e2⟩ := List.getElem?_eq_some_iff.1 hx
        rw [← e1, ← e2]
        exact List.pairwise_iff_getElem.1 t4 _ _ q1 q2 (by omega)
      rwa [hp] at this
    have hl : FnC Tryz.prog 22 [.d E, .d (.st x.p)] (.tup [.d (.it .i64 j), .d (.it .i64 0)]) := by
      have := a5 x j hj
      rwa [hj.look] at this
    have hi := a6 j
    have n0 := num14_ok 0
    have hth : thereB T.1 p (k + 1) = (b || decide (x.p = p)) := by rw [thereB_step hx, k2]
    have hrd := a7 x j hj
    obtain ⟨_, hkd, hdt⟩ := hj
    obtain ⟨xp, xd, xx⟩ := x
    obtain ⟨yp, yd, yx⟩ := y
    dsimp only at hkd hdt hb hl hrd hth
    rw [← hdt] at hrd
    clear hdt a5 a7 t6 t3 t5 t4
    generalize inoAt f j = z at *
    obtain ⟨zk, z1, z2, z3, z4, z5⟩ := z
    dsimp only at hkd hrd
    rcases hkd with ⟨rfl, rfl⟩ | ⟨rfl, rfl⟩
    · have hrd := hrd rfl
      (repeat' ((conv=>whnf);first|with_reducible refine gA ?_|((with_reducible refine callE_id ?_); first | refine CallE.con ⟨_, hl, ?_⟩ | refine CallE.con ⟨_, hi, ?_⟩ | refine CallE.con ⟨_, n0, ?_⟩ | refine CallE.con ⟨_, hb (by omega), ?_⟩ | refine CallE.con ⟨_, hrd, ?_⟩) | ((with_reducible refine callP_id ?_); first | refine CallP.mk ⟨_, n0, ?_⟩ | refine CallP.mk ⟨_, hb (by omega), ?_⟩) | with_reducible refine at_known hx ?_ | with_reducible refine at_prev (by omega) hy ?_ | with_reducible refine bytes_now ?_ | with_reducible refine Spl.yes (beq_self_eq_true _) ?_|(with_reducible first|refine gB ?_|refine gZ (fun x hx hu=>?_)|refine gY (fun x hx=>?_)|refine gE ?_|refine Both.mk ?_ ?_|refine gS (fun h=>?_) (fun h=>?_)|refine Spl.nt ?_|refine Spl.mk (fun h=>?_) (fun h=>?_))))
      all_goals first
        | (refine again (k + 1, thereB T.1 p (k + 1)) ⟨hkl, rfl⟩ (by dsimp only; omega) (And.intro rfl (And.intro rfl (And.intro rfl (And.intro rfl (And.intro rfl (And.intro rfl (And.intro (bl_eq ?_) (And.intro rfl trivial)))))))) trivial rfl
           first
            | (have hb1 : b = true := by assumption
               rw [hth, hb1]; rfl)
            | (have hb1 : b = false := by assumption
               rw [hth, hb1, Bool.false_or, Bool.eq_iff_iff, beq_iff_eq, decide_eq_true_eq]))
        | (exfalso; simp_all; done)
    · clear hrd
      (repeat' ((conv=>whnf);first|with_reducible refine gA ?_|((with_reducible refine callE_id ?_); first | refine CallE.con ⟨_, hl, ?_⟩ | refine CallE.con ⟨_, hi, ?_⟩ | refine CallE.con ⟨_, n0, ?_⟩ | refine CallE.con ⟨_, hb (by omega), ?_⟩) | ((with_reducible refine callP_id ?_); first | refine CallP.mk ⟨_, n0, ?_⟩ | refine CallP.mk ⟨_, hb (by omega), ?_⟩) | with_reducible refine at_known hx ?_ | with_reducible refine at_prev (by omega) hy ?_ | with_reducible refine bytes_now ?_ | with_reducible refine Spl.yes (beq_self_eq_true _) ?_|(with_reducible first|refine gB ?_|refine gZ (fun x hx hu=>?_)|refine gY (fun x hx=>?_)|refine gE ?_|refine Both.mk ?_ ?_|refine gS (fun h=>?_) (fun h=>?_)|refine Spl.nt ?_|refine Spl.mk (fun h=>?_) (fun h=>?_))))
      all_goals first
        | (refine again (k + 1, thereB T.1 p (k + 1)) ⟨hkl, rfl⟩ (by dsimp only; omega) (And.intro rfl (And.intro rfl (And.intro rfl (And.intro rfl (And.intro rfl (And.intro rfl (And.intro (bl_eq ?_) (And.intro rfl trivial)))))))) trivial rfl
           first
            | (have hb1 : b = true := by assumption
               rw [hth, hb1]; rfl)
            | (have hb1 : b = false := by assumption
               rw [hth, hb1, Bool.false_or, Bool.eq_iff_iff, beq_iff_eq, decide_eq_true_eq]))
        | (exfalso; simp_all; done)
  · have hke : k = T.1.length := by omega
    subst hke
    have hbe := thereB_end (t := T.1) (p := p) (k := T.1.length) (Nat.le_refl _)
    rw [← k2] at hbe
    have n0 := num14_ok e0
    have hR2 : (lookP f p).2 = e0 := by rw [hR]
    (repeat' ((conv=>whnf);first|with_reducible refine gA ?_|((with_reducible refine callE_id ?_); first | refine CallE.con ⟨_, n0, ?_⟩) | ((with_reducible refine callP_id ?_); refine CallP.mk ⟨_, n0, ?_⟩)|(with_reducible first|refine gB ?_|refine gZ (fun x hx hu=>?_)|refine gY (fun x hx=>?_)|refine gE ?_|refine Both.mk ?_ ?_|refine gS (fun h=>?_) (fun h=>?_)|refine Spl.nt ?_|refine Spl.mk (fun h=>?_) (fun h=>?_))))
    all_goals refine bl_eq ?_
    · have hT : T.2 = true := by assumption
      have he : e0 = 0 := by assumption
      have h3 := t5 hT p
      rw [hR2, he] at h3
      show (b == !(p == [47])) = true
      rw [beq_iff_eq, Bool.eq_iff_iff, hbe, h3]
      simp
    · have hT : T.2 = true := by assumption
      have he : ¬ e0 = 0 := by assumption
      have h3 := t5 hT p
      rw [hR2] at h3
      show (b == false) = true
      rw [beq_iff_eq, Bool.eq_iff_iff, hbe, h3]
      simp [he]
    · have hT : T.2 = false := by assumption
      have := t2 hT
      rw [beq_iff_eq]
      omega
end Go.Proofs.YtijdbjjkfkjihaaGreatDoor

/- The law of finding, on a disk that is not mounted. Conditions: none. -/
namespace Go.Proofs.YtijdbjjkfkjihaaGreatDoor
open Go.Sy
set_option maxRecDepth 100000
set_option linter.all false
set_option maxHeartbeats 8000000 in
theorem finds_n (m : List (List UInt8)) (hm : ImOK m) (ws : List Wr) (hw : WsOK ws) (p : List UInt8) (hml : m.length ≤ 200) (hwl : ws.length ≤ 40) (hpl : p.length ≤ 200) (hmn : ¬ mntP (imgD (dskOf m ws))) :
    FnC Tryz.prog 6 [.d (encM m), .d (.fs 36 (ws.map encW)), .d (.st p)] (.d (.bl true)) := by
  have kk := knows14_ok
  have h1 : (m.map encS).length = m.length := List.length_map ..
  have h2 : (ws.map encW).length = ws.length := List.length_map ..
  have hd : DkOK (dskOf m ws) := dsk_OK hm hw (by omega)
  have a1 := disk_ok m hm ws hw (by omega) (by omega)
  have a2 := tree_ok (dskOf m ws) hd
  have a3 := mount_ok (dskOf m ws) hd
  have a4 := lookup_ok (dskOf m ws) hd p (by omega)
  have a5 := fun x j => fun h : NodOK (rdS (dskOf m ws)) x j => lookup_ok (dskOf m ws) hd x.p (look_len h.look)
  have a6 := fun j => inode_ok (dskOf m ws) hd j
  obtain ⟨t1, t2, t3, t4, t5⟩ := tree_law (rdS (dskOf m ws))
  unfold mountV at a3
  rw [if_neg hmn] at a3
  unfold tupN at a2
  generalize (if safV (dskOf m ws) = [] then (1 : Int) else 8) = e3 at a3
  generalize rdS (dskOf m ws) = f at *
  have t6 := fun x (hx : x ∈ (treeV f).1) => nod_ok x (t3 x hx)
  generalize treeV f = T at *
  generalize hR : lookP f p = R at *
  unfold pairA at a4 a5
  generalize encD (dskOf m ws) = E at *
  obtain ⟨n0, e0⟩ := R
  have hTl : (T.1.map encN).length = T.1.length := List.length_map ..
  refine FnC.intro ti_ok Tryz.func6 rfl Tryz.ntmps6 Tryz.call6 rfl (Nat.le_of_ble_eq_true rfl) rfl ?_
  (repeat' ((conv=>whnf);first|with_reducible refine gA ?_|((with_reducible refine callE_id ?_); first | refine CallE.con ⟨_, kk, ?_⟩ | refine CallE.con ⟨_, a1, ?_⟩ | refine CallE.con ⟨_, a2, ?_⟩ | refine CallE.con ⟨_, a3, ?_⟩ | refine CallE.con ⟨_, a4, ?_⟩)|(with_reducible first|refine gB ?_|refine gZ (fun x hx hu=>?_)|refine gY (fun x hx=>?_)|refine gE ?_|refine Both.mk ?_ ?_|refine gS (fun h=>?_) (fun h=>?_)|refine Spl.nt ?_|refine Spl.mk (fun h=>?_) (fun h=>?_))))
  refine loop_rule ti_ok (fun x : Nat × Bool => x.1 ≤ T.1.length ∧ x.2 = thereB T.1 p x.1) (vfA p E T (.d (.ot (.pointer none))) e0) (fun x => T.1.length - x.1) (0, false) ⟨Nat.zero_le _, rfl⟩ ⟨And.intro rfl (And.intro rfl (And.intro rfl (And.intro rfl (And.intro rfl (And.intro rfl (And.intro rfl (And.intro rfl trivial))))))), trivial, rfl⟩ ?_
  rintro ⟨k, b⟩ ⟨k1, k2⟩
  dsimp only at k1 k2
  rcases Nat.lt_or_ge k T.1.length with hkl | hkl
  · obtain ⟨x, hx⟩ := lt_get hkl
    obtain ⟨y, hy⟩ := lt_get (show k - 1 < T.1.length by omega)
    obtain ⟨j, hj⟩ := t6 x (List.mem_of_getElem? hx)
    have hb : 0 < k → FnC Tryz.prog 25 [.d (.st y.p), .d (.st x.p)] (.d (.bl true)) := fun h0 => by
      obtain ⟨_, hjy⟩ := t6 y (List.mem_of_getElem? hy)
      have := before_ok y.p x.p (look_len hjy.look) (look_len hj.look)
      have hp : befN (key y.p) (key x.p) = true := by
        obtain ⟨q1, e1⟩ := List.getElem?_eq_some_iff.1 hy
        obtain ⟨q2, e2⟩ := List.getElem?_eq_some_iff.1 hx
        rw [← e1, ← e2]
        exact List.pairwise_iff_getElem.1 t4 _ _ q1 q2 (by omega)
      rwa [hp] at this
    have hl : FnC Tryz.prog 22 [.d E, .d (.st x.p)] (.tup [.d (.it .i64 j), .d (.it .i64 0)]) := by
      have := a5 x j hj
      rwa [hj.look] at this
    have hi := a6 j
    have n0 := num14_ok 0
    have hth : thereB T.1 p (k + 1) = (b || decide (x.p = p)) := by rw [thereB_step hx, k2]
    obtain ⟨_, hkd, hdt⟩ := hj
    obtain ⟨xp, xd, xx⟩ := x
    obtain ⟨yp, yd, yx⟩ := y
    dsimp only at hkd hb hl hth
    clear hdt a5 t6 t3 t5 t4
    generalize inoAt f j = z at *
    obtain ⟨zk, z1, z2, z3, z4, z5⟩ := z
    dsimp only at hkd
    rcases hkd with ⟨rfl, rfl⟩ | ⟨rfl, rfl⟩
    · have := hl
      (repeat' ((conv=>whnf);first|with_reducible refine gA ?_|((with_reducible refine callE_id ?_); first | refine CallE.con ⟨_, hl, ?_⟩ | refine CallE.con ⟨_, hi, ?_⟩ | refine CallE.con ⟨_, n0, ?_⟩ | refine CallE.con ⟨_, hb (by omega), ?_⟩) | ((with_reducible refine callP_id ?_); first | refine CallP.mk ⟨_, n0, ?_⟩ | refine CallP.mk ⟨_, hb (by omega), ?_⟩) | with_reducible refine at_known hx ?_ | with_reducible refine at_prev (by omega) hy ?_ | with_reducible refine bytes_now ?_ | with_reducible refine Spl.yes (beq_self_eq_true _) ?_|(with_reducible first|refine gB ?_|refine gZ (fun x hx hu=>?_)|refine gY (fun x hx=>?_)|refine gE ?_|refine Both.mk ?_ ?_|refine gS (fun h=>?_) (fun h=>?_)|refine Spl.nt ?_|refine Spl.mk (fun h=>?_) (fun h=>?_))))
      all_goals first
        | (refine again (k + 1, thereB T.1 p (k + 1)) ⟨hkl, rfl⟩ (by dsimp only; omega) (And.intro rfl (And.intro rfl (And.intro rfl (And.intro rfl (And.intro rfl (And.intro rfl (And.intro (bl_eq ?_) (And.intro rfl trivial)))))))) trivial rfl
           first
            | (have hb1 : b = true := by assumption
               rw [hth, hb1]; rfl)
            | (have hb1 : b = false := by assumption
               rw [hth, hb1, Bool.false_or, Bool.eq_iff_iff, beq_iff_eq, decide_eq_true_eq]))
        | (exfalso; simp_all; done)
    · have := hl
      (repeat' ((conv=>whnf);first|with_reducible refine gA ?_|((with_reducible refine callE_id ?_); first | refine CallE.con ⟨_, hl, ?_⟩ | refine CallE.con ⟨_, hi, ?_⟩ | refine CallE.con ⟨_, n0, ?_⟩ | refine CallE.con ⟨_, hb (by omega), ?_⟩) | ((with_reducible refine callP_id ?_); first | refine CallP.mk ⟨_, n0, ?_⟩ | refine CallP.mk ⟨_, hb (by omega), ?_⟩) | with_reducible refine at_known hx ?_ | with_reducible refine at_prev (by omega) hy ?_ | with_reducible refine bytes_now ?_ | with_reducible refine Spl.yes (beq_self_eq_true _) ?_|(with_reducible first|refine gB ?_|refine gZ (fun x hx hu=>?_)|refine gY (fun x hx=>?_)|refine gE ?_|refine Both.mk ?_ ?_|refine gS (fun h=>?_) (fun h=>?_)|refine Spl.nt ?_|refine Spl.mk (fun h=>?_) (fun h=>?_))))
      all_goals first
        | (refine again (k + 1, thereB T.1 p (k + 1)) ⟨hkl, rfl⟩ (by dsimp only; omega) (And.intro rfl (And.intro rfl (And.intro rfl (And.intro rfl (And.intro rfl (And.intro rfl (And.intro (bl_eq ?_) (And.intro rfl trivial)))))))) trivial rfl
           first
            | (have hb1 : b = true := by assumption
               rw [hth, hb1]; rfl)
            | (have hb1 : b = false := by assumption
               rw [hth, hb1, Bool.false_or, Bool.eq_iff_iff, beq_iff_eq, decide_eq_true_eq]))
        | (exfalso; simp_all; done)
  · have hke : k = T.1.length := by omega
    subst hke
    have hbe := thereB_end (t := T.1) (p := p) (k := T.1.length) (Nat.le_refl _)
    rw [← k2] at hbe
    have n0 := num14_ok e0
    have hR2 : (lookP f p).2 = e0 := by rw [hR]
    (repeat' ((conv=>whnf);first|with_reducible refine gA ?_|((with_reducible refine callE_id ?_); first | refine CallE.con ⟨_, n0, ?_⟩) | ((with_reducible refine callP_id ?_); refine CallP.mk ⟨_, n0, ?_⟩)|(with_reducible first|refine gB ?_|refine gZ (fun x hx hu=>?_)|refine gY (fun x hx=>?_)|refine gE ?_|refine Both.mk ?_ ?_|refine gS (fun h=>?_) (fun h=>?_)|refine Spl.nt ?_|refine Spl.mk (fun h=>?_) (fun h=>?_))))
    all_goals refine bl_eq ?_
    · have hT : T.2 = true := by assumption
      have he : e0 = 0 := by assumption
      have h3 := t5 hT p
      rw [hR2, he] at h3
      show (b == !(p == [47])) = true
      rw [beq_iff_eq, Bool.eq_iff_iff, hbe, h3]
      simp
    · have hT : T.2 = true := by assumption
      have he : ¬ e0 = 0 := by assumption
      have h3 := t5 hT p
      rw [hR2] at h3
      show (b == false) = true
      rw [beq_iff_eq, Bool.eq_iff_iff, hbe, h3]
      simp [he]
    · have hT : T.2 = false := by assumption
      have := t2 hT
      rw [beq_iff_eq]
      omega
end Go.Proofs.YtijdbjjkfkjihaaGreatDoor

/- The law of finding. Conditions: none. -/
namespace Go.Proofs.YtijdbjjkfkjihaaGreatDoor
open Go.Sy
set_option maxRecDepth 100000
set_option linter.all false
theorem mnt_nil (d : Option Dk) (h : mntP (imgD d)) : ∃ dk, d = some dk := by
  cases d with
  | none => exact absurd h.1 (by show ¬ ([] : List (List UInt8)).length = 65; decide)
  | some dk => exact ⟨dk, rfl⟩
theorem finds_ok (m : List (List UInt8)) (hm : ImOK m) (ws : List Wr) (hw : WsOK ws) (p : List UInt8) : FnC Tryz.prog 6 [.d (encM m), .d (.fs 36 (ws.map encW)), .d (.st p)] (.d (.bl true)) := by
  have kk := knows14_ok
  have h1 : (m.map encS).length = m.length := List.length_map ..
  have h2 : (ws.map encW).length = ws.length := List.length_map ..
  by_cases hs : m.length ≤ 200 ∧ ws.length ≤ 40 ∧ p.length ≤ 200
  · obtain ⟨s1, s2, s3⟩ := hs
    by_cases hmn : mntP (imgD (dskOf m ws))
    · obtain ⟨dk, hdk⟩ := mnt_nil _ hmn
      rw [hdk] at hmn
      exact finds_m m hm ws hw p s1 s2 s3 dk hdk hmn
    · exact finds_n m hm ws hw p s1 s2 s3 hmn
  · refine FnC.intro ti_ok Tryz.func6 rfl Tryz.ntmps6 Tryz.call6 rfl (Nat.le_of_ble_eq_true rfl) rfl ?_
    by_cases s1 : m.length ≤ 200
    · by_cases s2 : ws.length ≤ 40
      · have s3 : ¬ p.length ≤ 200 := fun h => hs ⟨s1, s2, h⟩
        (repeat' ((conv=>whnf);first|with_reducible refine gA ?_|((with_reducible refine callE_id ?_); refine CallE.con ⟨_, kk, ?_⟩)|(with_reducible first|refine gB ?_|refine gZ (fun x hx hu=>?_)|refine gY (fun x hx=>?_)|refine gE ?_|refine Both.mk ?_ ?_|refine gS (fun h=>?_) (fun h=>?_)|refine Spl.nt ?_|refine Spl.mk (fun h=>?_) (fun h=>?_))))
        exact rfl
      · (repeat' ((conv=>whnf);first|with_reducible refine gA ?_|((with_reducible refine callE_id ?_); refine CallE.con ⟨_, kk, ?_⟩)|(with_reducible first|refine gB ?_|refine gZ (fun x hx hu=>?_)|refine gY (fun x hx=>?_)|refine gE ?_|refine Both.mk ?_ ?_|refine gS (fun h=>?_) (fun h=>?_)|refine Spl.nt ?_|refine Spl.mk (fun h=>?_) (fun h=>?_))))
        exact rfl
    · (repeat' ((conv=>whnf);first|with_reducible refine gA ?_|((with_reducible refine callE_id ?_); refine CallE.con ⟨_, kk, ?_⟩)|(with_reducible first|refine gB ?_|refine gZ (fun x hx hu=>?_)|refine gY (fun x hx=>?_)|refine gE ?_|refine Both.mk ?_ ?_|refine gS (fun h=>?_) (fun h=>?_)|refine Spl.nt ?_|refine Spl.mk (fun h=>?_) (fun h=>?_))))
      exact rfl
end Go.Proofs.YtijdbjjkfkjihaaGreatDoor

/- The card of ViewFinds. Conditions: none. -/
namespace Go.Proofs.YtijdbjjkfkjihaaGreatDoor
open Go.Sy Go.ChangeShapes Go.WideShapes Go.ChangeAt Go.RowKit
set_option maxRecDepth 100000
set_option linter.all false
def plainT : List Nat := [9, 4, 35, 25, 5, 60, 22, 3, 62, 64, 23]
theorem closed : closedB ti plainT = true := by decide +kernel
theorem shp_st {n : Nat} {x : D} (h : Shp ti n 9 [x]) : ∃ s : List UInt8, x = .st s := by
  match n, h with
  | n + 1, h =>
    obtain ⟨s, hl, _⟩ := h
    exact ⟨s, by simpa using hl⟩
theorem shp_byte {n : Nat} {ds : List D} (h : Shp ti n 5 ds) : ∃ b : UInt8, ds = [.it .u8 b.toNat] := by
  match n, h with
  | n + 1, h =>
    obtain ⟨z, rfl, h1, h2⟩ := h
    have h1' : (0 : Int) ≤ z := h1
    have h2' : z ≤ 255 := h2
    refine ⟨by8e z, ?_⟩
    rw [by8e_ok (by omega)]
theorem shp_bytes {n : Nat} : ∀ {m : Nat} {ds : List D}, ShpN (Shp ti n 5) m ds → ∃ s : List UInt8, s.length = m ∧ ds = encS s
  | 0, ds, h => ⟨[], rfl, h⟩
  | m + 1, ds, h => by
    obtain ⟨a, b, rfl, h1, h2⟩ := h
    obtain ⟨c, rfl⟩ := shp_byte h1
    obtain ⟨s, hs, rfl⟩ := shp_bytes h2
    exact ⟨c :: s, by simp [hs], rfl⟩
theorem shp_sec {n : Nat} {ds : List D} (h : Shp ti n 60 ds) : ∃ s : List UInt8, s.length = 32 ∧ ds = encS s := by
  match n, h with
  | n + 1, h => exact shp_bytes (n := n) (m := 32) h
theorem shp_secs {n : Nat} : ∀ {es : List (List D)}, (∀ x ∈ es, Shp ti n 60 x) → ∃ m : List (List UInt8), ImOK m ∧ es = m.map encS
  | [], _ => ⟨[], (fun s hs => by cases hs), rfl⟩
  | x :: es, h => by
    obtain ⟨s, hs, rfl⟩ := shp_sec (h x List.mem_cons_self)
    obtain ⟨m, hm, rfl⟩ := shp_secs (fun y hy => h y (List.mem_cons_of_mem _ hy))
    refine ⟨s :: m, fun t ht => ?_, rfl⟩
    rcases List.mem_cons.1 ht with rfl | ht
    · exact hs
    · exact hm t ht
theorem shp_img {n : Nat} {x : D} (h : Shp ti n 22 [x]) : ∃ m : List (List UInt8), ImOK m ∧ x = encM m := by
  match n, h with
  | n + 1, h =>
    obtain ⟨es, hl, _, he⟩ := h
    obtain ⟨m, hm, rfl⟩ := shp_secs he
    exact ⟨m, hm, by simpa using hl⟩
theorem shp_int {n : Nat} {ds : List D} (h : Shp ti n 3 ds) : ∃ z : Int, ds = [.it .i64 z] := by
  match n, h with
  | n + 1, h =>
    obtain ⟨z, rfl, _⟩ := h
    exact ⟨z, rfl⟩
theorem shp_wr {n : Nat} {ds : List D} (h : Shp ti n 64 ds) : ∃ w : Wr, w.s.length = 32 ∧ ds = encW w := by
  match n, h with
  | n + 1, h =>
    obtain ⟨a, b, rfl, ha, c, d, rfl, hc, e, f, rfl, he, g, q, rfl, hg, rfl⟩ := h
    obtain ⟨za, rfl⟩ := shp_int ha
    obtain ⟨s, hs, rfl⟩ := shp_sec hc
    obtain ⟨ze, rfl⟩ := shp_int hg
    match n, he with
    | n + 1, he =>
      obtain ⟨k, i, rfl, hk, j, r, rfl, hj, rfl⟩ := he
      obtain ⟨zk, rfl⟩ := shp_int hk
      obtain ⟨zj, rfl⟩ := shp_int hj
      exact ⟨⟨za, s, zk, zj, ze⟩, hs, by simp [encW]⟩
theorem shp_wrs {n : Nat} : ∀ {es : List (List D)}, (∀ x ∈ es, Shp ti n 64 x) → ∃ l : List Wr, WsOK l ∧ es = l.map encW
  | [], _ => ⟨[], (fun s hs => by cases hs), rfl⟩
  | x :: es, h => by
    obtain ⟨s, hs, rfl⟩ := shp_wr (h x List.mem_cons_self)
    obtain ⟨m, hm, rfl⟩ := shp_wrs (fun y hy => h y (List.mem_cons_of_mem _ hy))
    refine ⟨s :: m, fun t ht => ?_, rfl⟩
    rcases List.mem_cons.1 ht with rfl | ht
    · exact hs
    · exact hm t ht
theorem shp_ws {n : Nat} {x : D} (h : Shp ti n 23 [x]) : ∃ l : List Wr, WsOK l ∧ x = .fs 36 (l.map encW) := by
  match n, h with
  | n + 1, h =>
    obtain ⟨es, hl, _, he⟩ := h
    obtain ⟨m, hm, rfl⟩ := shp_wrs he
    exact ⟨m, hm, by simpa using hl⟩
theorem own : ownKnob Tryz.prog.godebug = none := by kernel_rfl
theorem laidOut : laidOutB Tryz.prog = true := by kernel_rfl

namespace tells
/-- For every argument and every world. -/
theorem contract (H : Type) (enc : TypeId × Value → H) (W : World) (base : Nat) (args : Array Value) (ds gs : List (DataW H)) (before : List MemPlace)
    (hval : ∀ (j : Nat) t v, Tryz.f6.params[j]? = some t → args[j]? = some v → Value.okWide Tryz.prog W .any base t v)
    (hW : DataW.Whole enc Tryz.prog Tryz.f6.params.toList Rows.viewFindsSpec.vars false W args.toList ds gs before) :
    Calls Tryz.prog 6 args W fun e W' => ∃ v, e = .returned v ∧ Rows.viewFindsSpec.post enc Tryz.prog Tryz.f6 false true false false W args v W' := by
  have hW' := hW
  obtain ⟨p, q, hA, hV, rfl, _, _⟩ := hW
  have hA' : DataW.TrodAll enc Tryz.prog W 0 (fun _ => true) true [22, 23, 9] args.toList ds p := hA
  obtain ⟨v0, _, d0, _, p0, _, e0, rfl, _, h0, hA1⟩ := trodAll_cons hA'
  obtain ⟨v1, _, d1, _, p1, _, rfl, rfl, _, h1, hA2⟩ := trodAll_cons hA1
  obtain ⟨v2, _, d2, _, p2, _, rfl, rfl, _, h2, hA3⟩ := trodAll_cons hA2
  obtain ⟨rfl, rfl, _⟩ := trodAll_nil hA3
  obtain rfl : args = #[v0, v1, v2] := by cases args; simp_all
  obtain ⟨rfl, rfl⟩ := trodVars_none hV
  obtain ⟨n0, x0, s0, a0⟩ := arg_one ti_ok closed (t := 22) (by decide) (ty := _) rfl rfl (hval 0 22 v0 rfl rfl) h0
  obtain ⟨n1, x1, s1, a1⟩ := arg_one ti_ok closed (t := 23) (by decide) (ty := _) rfl rfl (hval 1 23 v1 rfl rfl) h1
  obtain ⟨n2, x2, s2, a2⟩ := arg_one ti_ok closed (t := 9) (by decide) (ty := _) rfl rfl (hval 2 9 v2 rfl rfl) h2
  obtain ⟨y0, g0, rfl⟩ := shp_img s0
  obtain ⟨y1, g1, rfl⟩ := shp_ws s1
  obtain ⟨y2, rfl⟩ := shp_st s2
  refine (FnC.enter (finds_ok y0 g0 y1 g1 y2) (Tryz.call6 _ _) rfl ?_).mono ?_
  · intro j hj
    match j, hj with
    | 0, _ => exact a0
    | 1, _ => exact a1
    | 2, _ => exact a2
  · rintro e W' ⟨rfl, hB⟩
    exact ⟨_, rfl, law_post hW' rfl rfl rfl rfl rfl Tryz.underlying4 laidOut (by decide +kernel) hB⟩

noncomputable def wit : Array Value := #[.slice none 0 0, .slice none 0 0, .string ⟨#[]⟩]
noncomputable def low : Nat := (World.holding Tryz.prog default ⟨#[], #[], []⟩).heap.size
/-- A world that holds what the listed variables are listed with: the error lies in a block of its own. -/
noncomputable def laidWorld (os : Os) : World :=
  { World.holding Tryz.prog os ⟨#[.cells #[.string ⟨#[98, 121, 116, 101, 115, 46, 66, 117, 102, 102, 101, 114, 58, 32, 116, 111, 111, 32, 108, 97, 114, 103, 101]⟩] 264], #[], []⟩ with
    heap := (laidHeap (World.holding Tryz.prog os ⟨#[.cells #[.string ⟨#[98, 121, 116, 101, 115, 46, 66, 117, 102, 102, 101, 114, 58, 32, 116, 111, 111, 32, 108, 97, 114, 103, 101]⟩] 264], #[], []⟩).heap [(3, Rows.laid_unicode_utf8_acceptRanges), (2, Rows.laid_unicode_utf8_first)]).modify 1 fun
      | .cells _ t frozen => .cells #[.iface 250 (.pointer (some ⟨low, 0, none⟩))] t frozen
      | o => o }
theorem laid_met (os : Os) : laidMet Tryz.prog Rows.viewFindsRow.laid ((laidWorld os).forCall (fun _ _ => 0) ⟨#[], wit, []⟩).memory :=
  laidMet_of_run' 8 (by kernel_rfl) (by kernel_rfl)
theorem reads (os : Os) {H : Type} (enc : TypeId × Value → H) : ∃ places, DataW.whole enc Tryz.prog ((laidWorld os).forCall (fun _ _ => 0) ⟨#[], wit, []⟩).memory Tryz.f6.params.toList Rows.viewFindsSpec.vars false wit.toList 8 = some ([.nil, .nil, .lit (.string [])], [], places) :=
  ⟨[], by kernel_rfl⟩

theorem lifted (os : Os) (started : os.Started) (H : Type) (enc : TypeId × Value → H) (F : Stop.Interp) :
    ReturnsInHanded {} Tryz.checked os 6 .any ((OpenSpec.ofChange Rows.viewFindsSpec).preRow enc Tryz.prog Tryz.f6 Rows.viewFindsRow.domain false Rows.viewFindsRow.laid) (((OpenSpec.ofChange Rows.viewFindsSpec).at F).post enc Tryz.prog Tryz.f6 false true false false) := by
  obtain ⟨places, hx⟩ := reads os enc
  refine returnsInHanded_of_row (C := Tryz.checked) (s := OpenSpec.ofChange Rows.viewFindsSpec) own started (by kernel_rfl) Tryz.func6
    (witness_row_at (enc := enc) (C := Tryz.checked) false (laidWorld os) wit rfl (by kernel_rfl) (by kernel_rfl) (by kernel_rfl)
      (OpenSpec.preRow_of_cond 8 hx (by kernel_rfl) (fun k hk => by cases hk) (by kernel_rfl) (laid_met os))) ?_
  intro W base args ds gs before hval hW _ _ _ _ _ _
  exact contract H enc W base args ds gs before hval hW

theorem said : Rows.ViewFindsSaid :=
  OpenClaim.holds_of_cond 6 Tryz.f6 rfl rfl rfl rfl rfl rfl rfl ⟨rfl, rfl, rfl, rfl, rfl⟩ rfl rfl rfl rfl rfl (by kernel_rfl) Tryz.func6 (by kernel_rfl)
    (of_decide_eq_true (by kernel_rfl)) (by unfold Func.isWrapper; first | (rw [if_pos (by decide +kernel)]; kernel_rfl) | (rw [if_neg (by decide +kernel)]; exact ⟨rfl, rfl⟩))
    (fun os started H enc _ F => by rw [OpenClaim.pre_eq_preRow]; exact lifted os started H enc F)

theorem plain (f : FuncId) (fn : Func) (hf : Tryz.pinned.checked.prog.funcNamed "flotsam/flotsamlaw14.ViewFinds" = some f) (hfn : Tryz.pinned.checked.prog.funcs[f]? = some fn) :
    false = Tryz.pinned.checked.prog.looks [] ∧ ∀ (j : Nat) t, fn.params[j]? = some t → Tryz.pinned.checked.prog.wantsStandIn t = false := by
  obtain rfl : f = 6 := Option.some.inj ((show Tryz.prog.funcNamed "flotsam/flotsamlaw14.ViewFinds" = some 6 by kernel_rfl).symm.trans hf) |>.symm
  obtain rfl : fn = Tryz.f6 := (Option.some.inj (Tryz.func6.symm.trans hfn)).symm
  refine ⟨by kernel_rfl, fun j t ht => ?_⟩
  have hall : ∀ t ∈ Tryz.f6.params, Tryz.prog.wantsStandIn t = false := by decide +kernel
  exact hall t (Array.mem_of_getElem? ht)

/-- The card. -/
theorem card : Rows.ViewFindsCardSaid :=
  Claim7.holds_tied_plain_at .later [] _ _ _ _ said (fun _ h => by cases h) (by kernel_rfl) (fun _ h => by cases h) viewFinds_row_tie rfl ⟨rfl, rfl⟩ (by kernel_rfl) rfl plain (by kernel_rfl)
end tells
end Go.Proofs.YtijdbjjkfkjihaaGreatDoor
