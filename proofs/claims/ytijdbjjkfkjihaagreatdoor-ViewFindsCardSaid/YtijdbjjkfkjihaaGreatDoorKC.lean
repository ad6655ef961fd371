/- Contracts of the functions that the law reaches, and the law. Conditions: none. -/
import Derived.Test.YtijdbjjkfkjihaaGreatDoorKA
import Derived.Test.YtijdbjjkfkjihaaGreatDoorSC
set_option linter.all false
/- Entries: may they be? Conditions: none. -/
namespace Go.Proofs.YtijdbjjkfkjihaaGreatDoor
open Go.Sy
set_option maxRecDepth 100000
set_option linter.all false
structure Ent where
  u : Bool
  p : Int
  n : List UInt8
  t : Int
deriving DecidableEq
def encE (x : Ent) : List D := [.bl x.u, .it .i64 x.p, .st x.n, .it .i64 x.t]
def RE (x : Ent) : Prop := x.u = false ∧ x.p = 0 ∧ x.n = [] ∧ x.t = 0 ∨ x.u = true ∧ 0 ≤ x.p ∧ x.p < 16 ∧ 1 ≤ x.t ∧ x.t < 16 ∧ nameB x.n = true
instance (x : Ent) : Decidable (RE x) := by unfold RE; infer_instance
theorem e_ff {p : Prop} [Decidable p] (h : ¬ p) : AV.d (.bl false) = AV.d (.bl (decide p)) := by rw [decide_eq_false h]
theorem e_of {e : Bool} {p : Prop} [Decidable p] (h : e = true ↔ p) : AV.d (.bl e) = AV.d (.bl (decide p)) := by
  have : e = decide p := by rw [Bool.eq_iff_iff, h, decide_eq_true_eq]
  rw [this]
theorem eqE4 (a a' : Bool) (b b' : Int) (c c' : List UInt8) (d d' : Int) : eqDs [.bl a, .it .i64 b, .st c, .it .i64 d] [.bl a', .it .i64 b', .st c', .it .i64 d'] = decide (a = a' ∧ b = b' ∧ c = c' ∧ d = d') := by
  rw [Bool.eq_iff_iff]; simp [eqDs, eqD]
theorem e_tr {a b : Bool} {v : AV} (h : a = b) (h2 : AV.d (.bl b) = v) : AV.d (.bl a) = v := by rw [h, h2]
theorem re_ok (x : Ent) : FnC Tryz.prog 168 [.dg 4 (encE x)] (.d (.bl (decide (RE x)))) := by
  refine FnC.intro ti_ok Tryz.func168 rfl Tryz.ntmps168 Tryz.call168 rfl (Nat.le_of_ble_eq_true rfl) rfl ?_
  have hn := name_ok x.n
  cases hu : x.u with
  | false =>
    have hu' : (!x.u) = true := by rw [hu]; rfl
    (repeat' ((conv=>whnf);first|with_reducible refine gA ?_|(with_reducible first|refine gB ?_|refine gZ (fun x hx hu=>?_)|refine gY (fun x hx=>?_)|refine gE ?_|refine Both.mk ?_ ?_|refine gS (fun h=>?_) (fun h=>?_)|refine Spl.nt ?_|refine Spl.mk (fun h=>?_) (fun h=>?_))))
    exact e_tr (eqE4 _ _ _ _ _ _ _ _) (e_of (by simp [RE, hu]))
  | true =>
    have hu' : (!x.u) = false := by rw [hu]; rfl
    (repeat' ((conv=>whnf);first|with_reducible refine gA ?_|(refine CallE.con ⟨_, hn, ?_⟩) | with_reducible refine CallI.inl ti_ok i189 rfl ?_|(with_reducible first|refine gB ?_|refine gZ (fun x hx hu=>?_)|refine gY (fun x hx=>?_)|refine gE ?_|refine Both.mk ?_ ?_|refine gS (fun h=>?_) (fun h=>?_)|refine Spl.nt ?_|refine Spl.mk (fun h=>?_) (fun h=>?_))))
    all_goals first
      | (refine e_ff ?_; simp only [RE, hu]; simp; omega)
      | exact e_of ⟨fun hb => .inr ⟨hu, by omega, by omega, by omega, by omega, hb⟩, fun h => h.elim (fun h => by rw [hu] at h; cases h.1) fun h => h.2.2.2.2.2⟩
end Go.Proofs.YtijdbjjkfkjihaaGreatDoor

/- Entries as sectors. Conditions: none. -/
namespace Go.Proofs.YtijdbjjkfkjihaaGreatDoor
open Go.Sy
set_option maxRecDepth 100000
set_option linter.all false
def by8e (n : Int) : UInt8 := UInt8.ofNat n.toNat
theorem by8e_ok {n : Int} (h : 0 ≤ n ∧ n < 256) : ((by8e n).toNat : Int) = n := by
  unfold by8e
  rw [UInt8.toNat_ofNat']
  omega
/-- The sector of an entry. -/
def entS (x : Ent) : List UInt8 := if x.u = true then [1, by8e x.p, by8e x.t, by8e x.n.length, 0, 0, 0, 0, 0, 0, 0, 0, 0, 0, 0, 0] ++ x.n ++ List.replicate (16 - x.n.length) 0 else zeroS
def c16 (x : Ent) : List D := [.it .u8 1, .it .u8 x.p, .it .u8 x.t, .it .u8 (x.n.length : Nat), .it .u8 0, .it .u8 0, .it .u8 0, .it .u8 0, .it .u8 0, .it .u8 0, .it .u8 0, .it .u8 0, .it .u8 0, .it .u8 0, .it .u8 0, .it .u8 0]
theorem st_all (l : List AV) : l = [] ++ l ++ [] := by simp
theorem bytes_flat : ∀ (n : List UInt8), (bytesD n).flatten = encS n
  | [] => rfl
  | b :: n => by show [D.it .u8 b.toNat] ++ (bytesD n).flatten = D.it .u8 b.toNat :: encS n; rw [bytes_flat n]; rfl
theorem encS_rep (k : Nat) : encS (List.replicate k 0) = List.replicate k (.it .u8 0) := by unfold encS; rw [List.map_replicate]; rfl
theorem entS_len (x : Ent) (hx : RE x) : (entS x).length = 32 := by
  unfold entS
  unfold RE at hx
  split
  · rename_i hu
    rcases hx with h | ⟨_, _, _, _, _, hn⟩
    · rw [hu] at h; cases h.1
    · have : x.n.length ≤ 8 := by
        unfold nameB at hn
        simp only [Bool.and_eq_true, decide_eq_true_eq] at hn; omega
      simp; omega
  · rfl
theorem entS_enc {x : Ent} (hu : x.u = true) (hp : 0 ≤ x.p ∧ x.p < 16) (ht : 0 ≤ x.t ∧ x.t < 16) (hn : x.n.length ≤ 16) :
    encS (entS x) = c16 x ++ encS x.n ++ List.replicate (16 - x.n.length) (.it .u8 0) := by
  unfold entS
  rw [if_pos hu]
  show encS (_ ++ x.n ++ _) = _
  unfold encS
  rw [List.map_append, List.map_append]
  have e2 : List.map (fun b : UInt8 => D.it .u8 b.toNat) [1, by8e x.p, by8e x.t, by8e x.n.length, 0, 0, 0, 0, 0, 0, 0, 0, 0, 0, 0, 0] = c16 x := by
    show [_, D.it .u8 (by8e x.p).toNat, D.it .u8 (by8e x.t).toNat, D.it .u8 (by8e x.n.length).toNat, _, _, _, _, _, _, _, _, _, _, _, _] = _
    rw [by8e_ok (by omega), by8e_ok (by omega), by8e_ok (by omega)]; rfl
  rw [e2]
  have e3 := encS_rep (16 - x.n.length)
  unfold encS at e3
  rw [e3]
theorem entS_cells {x : Ent} (hu : x.u = true) (hp : 0 ≤ x.p ∧ x.p < 16) (ht : 0 ≤ x.t ∧ x.t < 16) (hn : x.n.length ≤ 16) :
    (encS (entS x)).map AV.d = ((c16 x ++ List.replicate 16 (D.it .u8 0)).map AV.d).take 16 ++ (bytesD x.n).flatten.map AV.d ++ ((c16 x ++ List.replicate 16 (D.it .u8 0)).map AV.d).drop (16 + x.n.length * 1) := by
  have e1 := entS_enc hu hp ht hn
  have hl : (c16 x).length = 16 := rfl
  rw [e1, bytes_flat, List.map_append, List.map_append, List.map_append]
  have t1 : ((c16 x).map AV.d ++ (List.replicate 16 (D.it .u8 0)).map AV.d).take 16 = (c16 x).map AV.d := List.take_left' (by simp [hl])
  have t2 : ((c16 x).map AV.d ++ (List.replicate 16 (D.it .u8 0)).map AV.d).drop (16 + x.n.length * 1) = (List.replicate (16 - x.n.length) (D.it .u8 0)).map AV.d := by
    rw [List.drop_append, List.drop_eq_nil_of_le (by simp [hl]), List.nil_append, List.length_map, hl, List.map_replicate, List.map_replicate, List.drop_replicate]
    congr 1; omega
  rw [t1, t2]
theorem bytesD_l (n : List UInt8) : (bytesD n).length = n.length := by unfold bytesD; exact List.length_map ..
theorem entS_cells2 {x : Ent} {i j : Nat} (hi : i = 16) (hj : j = 16 + x.n.length * 1) (hu : x.u = true) (hp : 0 ≤ x.p ∧ x.p < 16) (ht : 0 ≤ x.t ∧ x.t < 16) (hn : x.n.length ≤ 16) :
    (encS (entS x)).map AV.d = ((c16 x ++ List.replicate 16 (D.it .u8 0)).map AV.d).take i ++ (bytesD x.n).flatten.map AV.d ++ ((c16 x ++ List.replicate 16 (D.it .u8 0)).map AV.d).drop j := by
  subst hi hj; exact entS_cells hu hp ht hn
def entR (x : Ent) : AV := if RE x then .tup [.dg 32 (encS (entS x)), .d (.bl true)] else .tup [.dg 32 (encS zeroS), .d (.bl false)]
set_option maxHeartbeats 4000000 in
theorem ent_ok (x : Ent) : FnC Tryz.prog 125 [.dg 4 (encE x)] (entR x) := by
  have hr := re_ok x
  unfold entR
  by_cases h : RE x
  · have hl := entS_len x h
    rw [if_pos h]
    rw [decide_eq_true h] at hr
    cases hu : x.u with
    | true =>
      obtain ⟨hp, ht, hn⟩ : (0 ≤ x.p ∧ x.p < 16) ∧ (0 ≤ x.t ∧ x.t < 16) ∧ x.n.length ≤ 8 := by
        unfold RE at h
        rcases h with h | ⟨_, h1, h2, h3, h4, hn⟩
        · rw [hu] at h; cases h.1
        · unfold nameB at hn
          simp only [Bool.and_eq_true, decide_eq_true_eq] at hn; omega
      refine FnC.intro ti_ok Tryz.func125 rfl Tryz.ntmps125 Tryz.call125 rfl (Nat.le_of_ble_eq_true rfl) rfl ?_
      (repeat' ((conv=>whnf);first|with_reducible refine gA ?_|((with_reducible refine callE_id ?_); (refine CallE.con ⟨_, hr, ?_⟩)) | ((with_reducible refine letC_id ?_); first | refine LetC.mk ((c16 x ++ List.replicate 16 (D.it .u8 0)).map AV.d) rfl ?_ | refine LetC.mk ((encS (entS x)).map AV.d) (entS_cells2 rfl (by show 0 + 16 * 1 + (bytesD x.n).length * 1 = _; rw [bytesD_l]) hu (by omega) (by omega) (by omega)) ?_ | refine LetC.mk ((encS (entS x)).map AV.d) (st_all _) ?_ | refine LetC.now ?_) | refine AtA.eq (ld_sec rfl rfl hl) ?_ | with_reducible refine AtA.mk' ?_|(with_reducible first|refine gB ?_|refine gZ (fun x hx hu=>?_)|refine gY (fun x hx=>?_)|refine gE ?_|refine Both.mk ?_ ?_|refine gS (fun h=>?_) (fun h=>?_)|refine Spl.nt ?_|refine Spl.mk (fun h=>?_) (fun h=>?_))))
      conv => whnf
      conv in (ldA _ _ _) => tactic => exact ld_sec rfl rfl hl
      rfl
    | false =>
      have he : entS x = zeroS := by unfold entS; rw [hu]; rfl
      rw [he]
      refine FnC.intro ti_ok Tryz.func125 rfl Tryz.ntmps125 Tryz.call125 rfl (Nat.le_of_ble_eq_true rfl) rfl ?_
      (repeat' ((conv=>whnf);first|with_reducible refine gA ?_|((with_reducible refine callE_id ?_); (refine CallE.con ⟨_, hr, ?_⟩)) | with_reducible refine AtA.mk' ?_|(with_reducible first|refine gB ?_|refine gZ (fun x hx hu=>?_)|refine gY (fun x hx=>?_)|refine gE ?_|refine Both.mk ?_ ?_|refine gS (fun h=>?_) (fun h=>?_)|refine Spl.nt ?_|refine Spl.mk (fun h=>?_) (fun h=>?_))))
      all_goals rfl
  · rw [if_neg h]
    rw [decide_eq_false h] at hr
    refine FnC.intro ti_ok Tryz.func125 rfl Tryz.ntmps125 Tryz.call125 rfl (Nat.le_of_ble_eq_true rfl) rfl ?_
    (repeat' ((conv=>whnf);first|with_reducible refine gA ?_|((with_reducible refine callE_id ?_); (refine CallE.con ⟨_, hr, ?_⟩)) | with_reducible refine AtA.mk' ?_|(with_reducible first|refine gB ?_|refine gZ (fun x hx hu=>?_)|refine gY (fun x hx=>?_)|refine gE ?_|refine Both.mk ?_ ?_|refine gS (fun h=>?_) (fun h=>?_)|refine Spl.nt ?_|refine Spl.mk (fun h=>?_) (fun h=>?_))))
    all_goals rfl
end Go.Proofs.YtijdbjjkfkjihaaGreatDoor

/- Entries as sectors, by the document's answer. Conditions: none. -/
namespace Go.Proofs.YtijdbjjkfkjihaaGreatDoor
open Go.Sy
set_option maxRecDepth 100000
set_option linter.all false
end Go.Proofs.YtijdbjjkfkjihaaGreatDoor

/- Some bytes of a sector. Conditions: none. -/
namespace Go.Proofs.YtijdbjjkfkjihaaGreatDoor
open Go.Sy
set_option maxRecDepth 100000
set_option linter.all false
theorem bytes_flat' : ∀ (n : List UInt8), (bytesD n).flatten = encS n
  | [] => rfl
  | b :: n => by show [D.it .u8 b.toNat] ++ (bytesD n).flatten = D.it .u8 b.toNat :: encS n; rw [bytes_flat' n]; rfl
set_option maxHeartbeats 4000000 in
theorem cut_ok (s : List UInt8) (hs : s.length = 32) (n : Nat) (hn : n < 256) : FnC Tryz.prog 124 [.dg 32 (encS s), .d (.it .i64 16), .d (.it .i64 (n : Nat))] (.d (.fs 1 (bytesD (if n ≤ 16 then (s.drop 16).take n else [])))) := by
  have hf := fits_ok 16 (n : Nat)
  by_cases h : n ≤ 16
  · rw [if_pos h]
    rw [decide_eq_true (by omega)] at hf
    refine FnC.intro ti_ok Tryz.func124 rfl Tryz.ntmps124 Tryz.call124 rfl (Nat.le_of_ble_eq_true rfl) rfl ?_
    (repeat' ((conv=>whnf);first|with_reducible refine gA ?_|((with_reducible refine callE_id ?_); first | refine CallE.con ⟨_, hf, ?_⟩ | refine CallE.inl ?_) | with_reducible refine CallI.inl ti_ok i58 rfl ?_|(with_reducible first|refine gB ?_|refine gZ (fun x hx hu=>?_)|refine gY (fun x hx=>?_)|refine gE ?_|refine Both.mk ?_ ?_|refine gS (fun h=>?_) (fun h=>?_)|refine Spl.nt ?_|refine Spl.mk (fun h=>?_) (fun h=>?_))))
    have hlen : ((16 + (n : Int)).toNat - Int.toNat 16) = n := by omega
    have hL : ((s.drop 16).take n).length = n := by rw [List.length_take, List.length_drop, hs]; omega
    refine ⟨bytesD ((s.drop 16).take n), ⟨?_, ?_, ?_, ?_, ?_⟩, ?_⟩
    · show 0 + Int.toNat 16 * 1 + ((16 + (n:Int)).toNat - Int.toNat 16) * 1 ≤ 32
      omega
    · show (bytesD ((s.drop 16).take n)).length = ((16 + (n:Int)).toNat - Int.toNat 16)
      rw [hlen]; unfold bytesD; rw [List.length_map, hL]
    · intro x hx
      show x.length = 1
      obtain ⟨b, _, rfl⟩ := List.mem_map.1 hx
      rfl
    · show (((encS s).map AV.d).drop (0 + Int.toNat 16 * 1)).take (((16 + (n:Int)).toNat - Int.toNat 16) * 1) = _
      rw [hlen, bytes_flat', Nat.mul_one]
      unfold encS
      rw [List.map_take, List.map_drop, List.map_take, List.map_drop]; rfl
    · show 0 + ((16 + (n:Int)).toNat - Int.toNat 16) ≤ 1073741824
      omega
    (repeat' ((conv=>whnf);first|with_reducible refine gA ?_|(with_reducible first|refine gB ?_|refine gZ (fun x hx hu=>?_)|refine gY (fun x hx=>?_)|refine gE ?_|refine Both.mk ?_ ?_|refine gS (fun h=>?_) (fun h=>?_)|refine Spl.nt ?_|refine Spl.mk (fun h=>?_) (fun h=>?_))))
    all_goals rfl
  · rw [if_neg h]
    rw [decide_eq_false (by omega)] at hf
    refine FnC.intro ti_ok Tryz.func124 rfl Tryz.ntmps124 Tryz.call124 rfl (Nat.le_of_ble_eq_true rfl) rfl ?_
    (repeat' ((conv=>whnf);first|with_reducible refine gA ?_|((with_reducible refine callE_id ?_); refine CallE.con ⟨_, hf, ?_⟩)|(with_reducible first|refine gB ?_|refine gZ (fun x hx hu=>?_)|refine gY (fun x hx=>?_)|refine gE ?_|refine Both.mk ?_ ?_|refine gS (fun h=>?_) (fun h=>?_)|refine Spl.nt ?_|refine Spl.mk (fun h=>?_) (fun h=>?_))))
    all_goals (show AV.d (.fs 1 []) = _; rfl)
end Go.Proofs.YtijdbjjkfkjihaaGreatDoor

namespace Go.Proofs.YtijdbjjkfkjihaaGreatDoor
open Go.Sy
set_option maxRecDepth 100000
set_option linter.all false
def pw : List UInt8 → List (List UInt8)
  | [] => []
  | _ :: t => wordsC 47 t
theorem wordsC_app {s : List UInt8} (hs : s = [] ∨ s.head? = some 47) : ∀ {w : List UInt8}, w.all (fun b => b != 47) = true → wordsC 47 (w ++ s) = w :: pw s
  | [], _ => by
    cases s with
    | nil => rfl
    | cons b t =>
      rcases hs with hs | hs
      · cases hs
      · obtain rfl : b = 47 := Option.some.inj hs
        rfl
  | b :: w, h => by
    rw [List.all_cons, Bool.and_eq_true] at h
    have hb : ¬ b = 47 := by simpa using h.1
    rw [List.cons_append, wordsC, if_neg hb, wordsC_app hs h.2]
theorem pw_step {p : List UInt8} {i k : Nat} (hi : p[i]? = some 47) (h1 : i + 1 ≤ k) (h2 : k ≤ p.length) (ha : ((p.take k).drop (i + 1)).all (fun b => b != 47) = true) (hk : k = p.length ∨ p[k]? = some 47) : pw (p.drop i) = (p.take k).drop (i + 1) :: pw (p.drop k) := by
  obtain ⟨hil, hi'⟩ := List.getElem?_eq_some_iff.1 hi
  have e1 : p.drop i = 47 :: p.drop (i + 1) := by rw [← hi']; exact List.drop_eq_getElem_cons hil
  have e2 : p.drop (i + 1) = (p.take k).drop (i + 1) ++ p.drop k := by
    have := List.take_append_drop k p
    conv => lhs; rw [← this]
    rw [List.drop_append_of_le_length (by rw [List.length_take]; omega)]
  rw [e1, pw, e2, wordsC_app ?_ ha]
  · rcases hk with hk | hk
    · exact .inl (List.drop_eq_nil_of_le (by omega))
    · right
      obtain ⟨hkl, hk'⟩ := List.getElem?_eq_some_iff.1 hk
      rw [List.drop_eq_getElem_cons hkl, hk']; rfl
def wI (p : List UInt8) : List (List UInt8) × Nat → Prop
  | (ws, i) => i ≤ p.length ∧ pw p = ws ++ pw (p.drop i) ∧ ws.all nameB = true ∧ ws.length ≤ i ∧ (i = 0 ∨ p[0]? = some 47 ∧ (i = p.length ∨ p[i]? = some 47))
def wA (p : List UInt8) : List (List UInt8) × Nat → S
  | (ws, i) => ⟨[(0, .d (.st p)), (4, .ts 1 (ws.map stL) 1), (5, .d (.it .i64 i))], [(1, .tail 9 true)], 2⟩
theorem splitP_pw9 {p : List UInt8} (h1 : ¬ p = [47]) (h : ¬ p[0]? = some 47 ∨ pw p = [] ∨ 4 < (pw p).length ∨ (pw p).all nameB = false) : splitP p = ([], 9) := by
  cases p with
  | nil => rfl
  | cons b r =>
    by_cases hb : b = 47
    · subst hb
      refine splitP_9 h1 ?_
      rcases h with h | h | h
      · exact absurd rfl h
      · exact absurd h (wordsC_ne 47 r)
      · exact h
    · exact splitP_b hb
theorem splitP_pw0 {p : List UInt8} (h1 : ¬ p = [47]) (h0 : p[0]? = some 47) (h2 : (pw p).length ≤ 4) (h3 : (pw p).all nameB = true) : splitP p = (pw p, 0) := by
  cases p with
  | nil => cases h0
  | cons b r =>
    obtain rfl : b = 47 := Option.some.inj h0
    exact splitP_0 h1 h2 h3
theorem refSplit_ok (p : List UInt8) (hp : p.length ≤ 100000) : FnC Tryz.prog 53 [.d (.st p)] (tupP (splitP p)) := by
  refine FnC.intro ti_ok Tryz.func53 rfl Tryz.ntmps53 Tryz.call53 rfl (Nat.le_of_ble_eq_true rfl) rfl ?_
  by_cases h1 : p = [47]
  · subst h1
    (repeat' ((conv=>whnf);first|with_reducible refine gA ?_|(with_reducible first|refine gB ?_|refine gZ (fun x hx hu=>?_)|refine gY (fun x hx=>?_)|refine gE ?_|refine Both.mk ?_ ?_|refine gS (fun h=>?_) (fun h=>?_)|refine Spl.nt ?_|refine Spl.mk (fun h=>?_) (fun h=>?_))))
    rfl
  (repeat' ((conv=>whnf);first|with_reducible refine gA ?_|(with_reducible first|refine gB ?_|refine gZ (fun x hx hu=>?_)|refine gY (fun x hx=>?_)|refine gE ?_|refine Both.mk ?_ ?_|refine gS (fun h=>?_) (fun h=>?_)|refine Spl.nt ?_|refine Spl.mk (fun h=>?_) (fun h=>?_))))
  refine loop_rule ti_ok (wI p) (wA p) (fun x => p.length - x.2) ([], 0) ⟨Nat.zero_le _, rfl, rfl, Nat.le_refl _, .inl rfl⟩ ⟨⟨rfl, rfl, rfl, trivial⟩, ⟨rfl, trivial⟩, rfl⟩ ?_
  intro ⟨ws, i⟩ ⟨hi, hw, ha, hl, hs⟩
  (repeat' ((conv=>whnf);first|with_reducible refine gA ?_|(with_reducible first|refine gB ?_|refine gZ (fun x hx hu=>?_)|refine gY (fun x hx=>?_)|refine gE ?_|refine Both.mk ?_ ?_|refine gS (fun h=>?_) (fun h=>?_)|refine Spl.nt ?_|refine Spl.mk (fun h=>?_) (fun h=>?_))))
  · refine (congrArg tupP (splitP_pw9 h1 ?_)).symm
    rcases hs with hs | ⟨_, hs | hs⟩
    · left; rw [← hs]; intro h47; rw [h47] at hx; obtain rfl := Option.some.inj hx; exact h rfl
    · omega
    · rw [hs] at hx; obtain rfl := Option.some.inj hx; exact absurd rfl h
  · have h47 : p[i]? = some 47 := by
      rw [hx]; congr 1
      exact UInt8.toNat_inj.1 (by simp; omega)
    refine loop_rule ti_ok (fun k : Nat => i + 1 ≤ k ∧ k ≤ p.length ∧ ((p.take k).drop (i + 1)).all (fun b => b != 47) = true) (fun k => ⟨[(0, .d (.st p)), (4, .ts 1 (ws.map stL) 1), (5, .d (.it .i64 i)), (6, .d (.it .i64 k))], [(1, .tail 9 true)], 2⟩) (fun k => p.length - k) (i + 1) ⟨Nat.le_refl _, by omega, by simp⟩ ⟨⟨rfl, rfl, rfl, it_eq (by omega), trivial⟩, ⟨rfl, trivial⟩, rfl⟩ ?_
    intro k ⟨k1, k2, k3⟩
    (repeat' ((conv=>whnf);first|with_reducible refine gA ?_|refine CallE.con ⟨_, refName_ok _, ?_⟩|(with_reducible first|refine gB ?_|refine gZ (fun x hx hu=>?_)|refine gY (fun x hx=>?_)|refine gE ?_|refine Both.mk ?_ ?_|refine gS (fun h=>?_) (fun h=>?_)|refine Spl.nt ?_|refine Spl.mk (fun h=>?_) (fun h=>?_))))
    · refine again (k + 1) ⟨by omega, by omega, ?_⟩ (by dsimp only; omega) (And.intro rfl (And.intro rfl (And.intro rfl (And.intro rfl trivial)))) (And.intro rfl trivial) rfl
      rw [take_snoc hx, List.drop_append_of_le_length (by rw [List.length_take]; omega), List.all_append, k3]
      simp only [List.all_cons, List.all_nil, Bool.and_true, Bool.true_and, bne_iff_ne, ne_eq]
      rintro rfl
      exact h rfl
    all_goals
      have hk : k = p.length ∨ p[k]? = some 47 := by
        first
        | (left; omega)
        | (right; rw [hx]; congr 1; exact UInt8.toNat_inj.1 (by simp; omega))
      have hst := pw_step h47 k1 k2 k3 hk
      have h00 : p[0]? = some 47 := by
        rcases hs with hs | hs
        · rw [← hs]; exact h47
        · exact hs.1
      first
      | (refine again (ws ++ [(p.take k).drop (i + 1)], k) ⟨k2, ?_, ?_, ?_, .inr ⟨h00, hk⟩⟩ (by dsimp only; omega) (And.intro rfl (And.intro (ts_eq ?_) (And.intro rfl trivial))) (And.intro rfl trivial) rfl
         · rw [hw, hst, List.append_assoc]; rfl
         · rw [List.all_append, ha, Bool.true_and]
           simp only [List.all_cons, List.all_nil, Bool.and_true]
           simpa using h
         · rw [List.length_append, List.length_singleton]; omega
         · rw [List.map_append]; rfl)
      | (refine (congrArg tupP (splitP_pw9 h1 (.inr (.inr (.inr ?_))))).symm
         rw [hw, hst, List.all_append, List.all_cons]
         have h' : nameB ((p.take k).drop (i + 1)) = false := by simpa using h
         rw [h']; simp)
  · exact (congrArg tupP (splitP_pw9 h1 (.inr (.inl (by rw [hw, show i = p.length by omega, List.drop_length]; simp only [List.length_map] at h; rw [List.length_eq_zero_iff.1 (show ws.length = 0 by omega)]; rfl))))).symm
  · exact (congrArg tupP (splitP_pw9 h1 (.inr (.inr (.inl (by rw [hw, show i = p.length by omega, List.drop_length]; simp at h; simp [pw]; omega)))))).symm
  · have e : pw p = ws := by rw [hw, show i = p.length by omega, List.drop_length]; simp [pw]
    have hne : 1 ≤ ws.length := by rename_i h2; simp only [List.length_map] at h2; omega
    refine Eq.trans ?_ (congrArg tupP (splitP_pw0 h1 ?_ ?_ ?_)).symm
    · rw [e]; rfl
    · rcases hs with hs | hs
      · omega
      · exact hs.1
    · rw [e]; simp at h; omega
    · rw [e]; exact ha
end Go.Proofs.YtijdbjjkfkjihaaGreatDoor

namespace Go.Proofs.YtijdbjjkfkjihaaGreatDoor
open Go.Sy
set_option maxRecDepth 100000
set_option linter.all false
theorem drop_ofX {α : Type} {l : List α} {k : Nat} {x : α} (h : l[k]? = some x) : l.drop k = x :: l.drop (k + 1) := by
  obtain ⟨hk, rfl⟩ := List.getElem?_eq_some_iff.1 h
  exact List.drop_eq_getElem_cons hk
theorem key_len (p : List UInt8) (hp : p.length ≤ 100000) : (key p).length ≤ 1000000 := by
  unfold key splitP
  split
  · simp
  · split
    · simp
    · split
      · split
        · rename_i r _ _ h; have := h.1; simp only; omega
        · simp
      · simp
theorem befN_at {a b : List (List UInt8)} {k : Nat} {x y : List UInt8} (hx : a[k]? = some x) (hy : b[k]? = some y) : befN (a.drop k) (b.drop k) = if x = y then befN (a.drop (k + 1)) (b.drop (k + 1)) else Op.bytesLess x y := by
  rw [drop_ofX hx, drop_ofX hy, befN]
theorem befN_end {a b : List (List UInt8)} {k : Nat} (h1 : k ≤ a.length) (h2 : k ≤ b.length) (h : k = a.length ∨ k = b.length) : befN (a.drop k) (b.drop k) = decide (a.length < b.length) := by
  rcases h with h | h
  · rw [List.drop_eq_nil_of_le (show a.length ≤ k by omega)]
    cases hd : b.drop k with
    | nil =>
      have := congrArg List.length hd
      simp at this
      exact (decide_eq_false (by omega)).symm
    | cons x t =>
      have := congrArg List.length hd
      simp at this
      exact (decide_eq_true (by omega)).symm
  · rw [List.drop_eq_nil_of_le (show b.length ≤ k by omega)]
    cases hd : a.drop k with
    | nil => exact (decide_eq_false (by omega)).symm
    | cons x t => exact (decide_eq_false (by omega)).symm
theorem before_ok (p q : List UInt8) (hp : p.length ≤ 100000) (hq : q.length ≤ 100000) : FnC Tryz.prog 25 [.d (.st p), .d (.st q)] (.d (.bl (befN (key p) (key q)))) := by
  refine FnC.intro ti_ok Tryz.func25 rfl Tryz.ntmps25 Tryz.call25 rfl (Nat.le_of_ble_eq_true rfl) rfl ?_
  have h1 := refSplit_ok p hp
  have h2 := refSplit_ok q hq
  have ha := key_len p hp
  have hb := key_len q hq
  unfold key at *
  generalize splitP p = sp at *
  generalize splitP q = sq at *
  obtain ⟨a, ea⟩ := sp
  obtain ⟨b, eb⟩ := sq
  simp only at ha hb
  (repeat' ((conv=>whnf);first|with_reducible refine gA ?_|refine CallE.con ⟨_, h1, ?_⟩ | refine CallE.con ⟨_, h2, ?_⟩|(with_reducible first|refine gB ?_|refine gZ (fun x hx hu=>?_)|refine gY (fun x hx=>?_)|refine gE ?_|refine Both.mk ?_ ?_|refine gS (fun h=>?_) (fun h=>?_)|refine Spl.nt ?_|refine Spl.mk (fun h=>?_) (fun h=>?_))))
  have hlb : (b.map stL).length = b.length := by simp
  have hla : (a.map stL).length = a.length := by simp
  refine loop_rule ti_ok (fun k : Nat => k ≤ a.length ∧ k ≤ b.length ∧ befN a b = befN (a.drop k) (b.drop k)) (fun k => ⟨[(5, .d (.fs 1 (a.map stL))), (7, .d (.fs 1 (b.map stL))), (9, .d (.it .i64 k))], [], 0⟩) (fun k => a.length - k) 0 ⟨Nat.zero_le _, Nat.zero_le _, rfl⟩ ⟨⟨rfl, rfl, rfl, trivial⟩, trivial, rfl⟩ ?_
  intro k ⟨k1, k2, k3⟩
  (repeat' ((conv=>whnf);first|with_reducible refine gA ?_|(with_reducible first|refine gB ?_|refine gZ (fun x hx hu=>?_)|refine gY (fun x hx=>?_)|refine gE ?_|refine Both.mk ?_ ?_|refine gS (fun h=>?_) (fun h=>?_)|refine Spl.nt ?_|refine Spl.mk (fun h=>?_) (fun h=>?_))))
  · rename_i x' hx'
    refine bl_eq ?_
    rw [k3, befN_at hx' hx, if_neg (by simpa using h)]
  · rename_i x' hx'
    refine again (k + 1) ⟨by omega, by omega, ?_⟩ (by dsimp only; omega) (And.intro rfl (And.intro rfl (And.intro rfl trivial))) trivial rfl
    rw [k3, befN_at hx' hx, if_pos (by simpa using h)]
  all_goals
    refine bl_eq ?_
    rw [k3, befN_end k1 k2 (by omega)]
    refine decide_eq_decide.2 ?_
    rw [hla, hlb]; omega
end Go.Proofs.YtijdbjjkfkjihaaGreatDoor

namespace Go.Proofs.YtijdbjjkfkjihaaGreatDoor
open Go.Sy
set_option maxRecDepth 100000
set_option linter.all false
def joinR (l : List (List UInt8)) : List UInt8 := if l = [] then [47] else joinP l
def tup3 (a b : List UInt8) (e : Int) : AV := .tup [.d (.st a), .d (.st b), .d (.it .i64 e)]
def parR (p : List UInt8) : AV :=
  if (splitP p).2 ≠ 0 then tup3 [] [] (splitP p).2 else
  if (splitP p).1 = [] then tup3 [] [] 1 else tup3 (joinR (splitP p).1.dropLast) ((splitP p).1.getLastD []) 0
theorem all_name {l : List (List UInt8)} (h : l.all nameB = true) : ∀ w ∈ l, w.length ≤ 8 := fun w hw => by
  have := List.all_eq_true.1 h w hw
  simp only [nameB, Bool.and_eq_true, decide_eq_true_eq] at this
  exact this.1.2.1
theorem splitP_name (p : List UInt8) : (splitP p).1.length ≤ 4 ∧ (splitP p).1.all nameB = true ∧ ((splitP p).1 ≠ [] → (splitP p).2 = 0) := by
  unfold splitP
  split
  · exact ⟨by simp, rfl, fun h => absurd rfl h⟩
  · split
    · exact ⟨by simp, rfl, fun h => absurd rfl h⟩
    · split
      · split
        · rename_i h; exact ⟨h.1, h.2, fun _ => rfl⟩
        · exact ⟨by simp, rfl, fun h => absurd rfl h⟩
      · exact ⟨by simp, rfl, fun h => absurd rfl h⟩
theorem pathJoin_ok (l : List (List UInt8)) (hn : l.length ≤ 1000000) (hl : (Lib.join l [47]).length ≤ 1000000) : FnC Tryz.prog 64 [.d (.fs 1 (l.map stL))] (.d (.st (47 :: Lib.join l [47]))) := by
  refine FnC.intro ti_ok Tryz.func64 rfl Tryz.ntmps64 Tryz.call64 rfl (Nat.le_of_ble_eq_true rfl) rfl ?_
  (repeat' ((conv=>whnf);first|with_reducible refine gA ?_|refine CallE.con ⟨_, join_ok l [47] hn (by omega), ?_⟩|(with_reducible first|refine gB ?_|refine gZ (fun x hx hu=>?_)|refine gY (fun x hx=>?_)|refine gE ?_|refine Both.mk ?_ ?_|refine gS (fun h=>?_) (fun h=>?_)|refine Spl.nt ?_|refine Spl.mk (fun h=>?_) (fun h=>?_))))
  rfl
theorem tup3_st {a b x : List UInt8} (h : a = b) : AV.tup [.d (.st a), .d (.st x), .d (.it .i64 0)] = tup3 b x 0 := by rw [h]; rfl
theorem par_ok (p : List UInt8) (hp : p.length ≤ 100000) : FnC Tryz.prog 83 [.d (.st p)] (parR p) := by
  have h1 := pathSplit_ok p hp
  obtain ⟨n1, n2, n3⟩ := splitP_name p
  unfold parR
  generalize splitP p = sp at *
  obtain ⟨l, e⟩ := sp
  simp only at n1 n2 n3
  have n4 := all_name n2
  match l with
  | [] =>
    by_cases he : e = 0
    · subst he
      show FnC _ _ _ (tup3 [] [] 1)
      refine FnC.intro ti_ok Tryz.func83 rfl Tryz.ntmps83 Tryz.call83 rfl (Nat.le_of_ble_eq_true rfl) rfl ?_
      (repeat' ((conv=>whnf);first|with_reducible refine gA ?_|refine CallE.con ⟨_, h1, ?_⟩|(with_reducible first|refine gB ?_|refine gZ (fun x hx hu=>?_)|refine gY (fun x hx=>?_)|refine gE ?_|refine Both.mk ?_ ?_|refine gS (fun h=>?_) (fun h=>?_)|refine Spl.nt ?_|refine Spl.mk (fun h=>?_) (fun h=>?_))))
      rfl
    · simp only [ne_eq, he, not_false_eq_true, if_true]
      refine FnC.intro ti_ok Tryz.func83 rfl Tryz.ntmps83 Tryz.call83 rfl (Nat.le_of_ble_eq_true rfl) rfl ?_
      (repeat' ((conv=>whnf);first|with_reducible refine gA ?_|refine CallE.con ⟨_, h1, ?_⟩|(with_reducible first|refine gB ?_|refine gZ (fun x hx hu=>?_)|refine gY (fun x hx=>?_)|refine gE ?_|refine Both.mk ?_ ?_|refine gS (fun h=>?_) (fun h=>?_)|refine Spl.nt ?_|refine Spl.mk (fun h=>?_) (fun h=>?_))))
      rfl
  | [a] =>
    obtain rfl := n3 (by simp)
    replace h1 : FnC _ _ _ (.tup [.d (.fs 1 [[.st a]]), .d (.it .i64 0)]) := h1
    have la := n4 a (by simp)
    show FnC _ _ _ (tup3 (joinR []) a 0)
    have hj := pathJoin_ok [] (by simp) (by simp [Lib.join, List.intercalate]; try omega)
    refine FnC.intro ti_ok Tryz.func83 rfl Tryz.ntmps83 Tryz.call83 rfl (Nat.le_of_ble_eq_true rfl) rfl ?_
    (repeat' ((conv=>whnf);first|with_reducible refine gA ?_|refine CallE.con ⟨_, h1, ?_⟩ | refine CallP.mk ⟨_, hj, ?_⟩|(with_reducible first|refine gB ?_|refine gZ (fun x hx hu=>?_)|refine gY (fun x hx=>?_)|refine gE ?_|refine Both.mk ?_ ?_|refine gS (fun h=>?_) (fun h=>?_)|refine Spl.nt ?_|refine Spl.mk (fun h=>?_) (fun h=>?_))))
    exact (tup3_st (x := a) (show 47 :: Lib.join [] [47] = joinR [] by simp [joinR, joinP, Lib.join, List.intercalate]) : _)
  | [a, b] =>
    obtain rfl := n3 (by simp)
    replace h1 : FnC _ _ _ (.tup [.d (.fs 1 [[.st a], [.st b]]), .d (.it .i64 0)]) := h1
    have la := n4 a (by simp); have lb := n4 b (by simp)
    show FnC _ _ _ (tup3 (joinR [a]) b 0)
    have hj := pathJoin_ok [a] (by simp) (by simp [Lib.join, List.intercalate]; try omega)
    refine FnC.intro ti_ok Tryz.func83 rfl Tryz.ntmps83 Tryz.call83 rfl (Nat.le_of_ble_eq_true rfl) rfl ?_
    (repeat' ((conv=>whnf);first|with_reducible refine gA ?_|refine CallE.con ⟨_, h1, ?_⟩ | refine CallP.mk ⟨_, hj, ?_⟩|(with_reducible first|refine gB ?_|refine gZ (fun x hx hu=>?_)|refine gY (fun x hx=>?_)|refine gE ?_|refine Both.mk ?_ ?_|refine gS (fun h=>?_) (fun h=>?_)|refine Spl.nt ?_|refine Spl.mk (fun h=>?_) (fun h=>?_))))
    exact (tup3_st (x := b) (show 47 :: Lib.join [a] [47] = joinR [a] by simp [joinR, joinP, Lib.join, List.intercalate]) : _)
  | [a, b, c] =>
    obtain rfl := n3 (by simp)
    replace h1 : FnC _ _ _ (.tup [.d (.fs 1 [[.st a], [.st b], [.st c]]), .d (.it .i64 0)]) := h1
    have la := n4 a (by simp); have lb := n4 b (by simp); have lc := n4 c (by simp)
    show FnC _ _ _ (tup3 (joinR [a, b]) c 0)
    have hj := pathJoin_ok [a, b] (by simp) (by simp [Lib.join, List.intercalate]; try omega)
    refine FnC.intro ti_ok Tryz.func83 rfl Tryz.ntmps83 Tryz.call83 rfl (Nat.le_of_ble_eq_true rfl) rfl ?_
    (repeat' ((conv=>whnf);first|with_reducible refine gA ?_|refine CallE.con ⟨_, h1, ?_⟩ | refine CallP.mk ⟨_, hj, ?_⟩|(with_reducible first|refine gB ?_|refine gZ (fun x hx hu=>?_)|refine gY (fun x hx=>?_)|refine gE ?_|refine Both.mk ?_ ?_|refine gS (fun h=>?_) (fun h=>?_)|refine Spl.nt ?_|refine Spl.mk (fun h=>?_) (fun h=>?_))))
    exact (tup3_st (x := c) (show 47 :: Lib.join [a, b] [47] = joinR [a, b] by simp [joinR, joinP, Lib.join, List.intercalate]) : _)
  | [a, b, c, d] =>
    obtain rfl := n3 (by simp)
    replace h1 : FnC _ _ _ (.tup [.d (.fs 1 [[.st a], [.st b], [.st c], [.st d]]), .d (.it .i64 0)]) := h1
    have la := n4 a (by simp); have lb := n4 b (by simp); have lc := n4 c (by simp); have ld := n4 d (by simp)
    show FnC _ _ _ (tup3 (joinR [a, b, c]) d 0)
    have hj := pathJoin_ok [a, b, c] (by simp) (by simp [Lib.join, List.intercalate]; try omega)
    refine FnC.intro ti_ok Tryz.func83 rfl Tryz.ntmps83 Tryz.call83 rfl (Nat.le_of_ble_eq_true rfl) rfl ?_
    (repeat' ((conv=>whnf);first|with_reducible refine gA ?_|refine CallE.con ⟨_, h1, ?_⟩ | refine CallP.mk ⟨_, hj, ?_⟩|(with_reducible first|refine gB ?_|refine gZ (fun x hx hu=>?_)|refine gY (fun x hx=>?_)|refine gE ?_|refine Both.mk ?_ ?_|refine gS (fun h=>?_) (fun h=>?_)|refine Spl.nt ?_|refine Spl.mk (fun h=>?_) (fun h=>?_))))
    exact (tup3_st (x := d) (show 47 :: Lib.join [a, b, c] [47] = joinR [a, b, c] by simp [joinR, joinP, Lib.join, List.intercalate]) : _)
  | a :: b :: c :: d :: e :: r => simp at n1
end Go.Proofs.YtijdbjjkfkjihaaGreatDoor

namespace Go.Proofs.YtijdbjjkfkjihaaGreatDoor
open Go.Sy
set_option maxRecDepth 100000
set_option linter.all false
theorem mayB_no {n : Nod} (h : ¬ ((splitP n.p).2 = 0 ∧ (splitP n.p).1 ≠ [] ∧ n.x.length ≤ 128 ∧ (n.d = true → n.x = []))) : mayB n = false := decide_eq_false h
theorem mayB_yes {n : Nod} (h : (splitP n.p).2 = 0 ∧ (splitP n.p).1 ≠ [] ∧ n.x.length ≤ 128 ∧ (n.d = true → n.x = [])) : mayB n = true := decide_eq_true h
theorem vmay_ok (n : Nod) (hp : n.p.length ≤ 100000) : FnC Tryz.prog 41 [.dg 3 (encN n)] (.d (.bl (mayB n))) := by
  refine FnC.intro ti_ok Tryz.func41 rfl Tryz.ntmps41 Tryz.call41 rfl (Nat.le_of_ble_eq_true rfl) rfl ?_
  obtain ⟨p, d, x⟩ := n
  have h1 := par_ok p hp
  unfold parR at h1
  by_cases e0 : (splitP p).2 = 0
  · rw [if_neg (by simpa using e0)] at h1
    by_cases e1 : (splitP p).1 = []
    · rw [if_pos e1] at h1
      rw [mayB_no (fun h => h.2.1 e1)]
      (repeat' ((conv=>whnf);first|with_reducible refine gA ?_|refine CallE.con ⟨_, h1, ?_⟩|(with_reducible first|refine gB ?_|refine gZ (fun x hx hu=>?_)|refine gY (fun x hx=>?_)|refine gE ?_|refine Both.mk ?_ ?_|refine gS (fun h=>?_) (fun h=>?_)|refine Spl.nt ?_|refine Spl.mk (fun h=>?_) (fun h=>?_))))
      rfl
    · rw [if_neg e1] at h1
      by_cases hx : x.length ≤ 128
      · cases d
        · rw [mayB_yes ⟨e0, e1, hx, fun h => by cases h⟩]
          (repeat' ((conv=>whnf);first|with_reducible refine gA ?_|refine CallE.con ⟨_, h1, ?_⟩|(with_reducible first|refine gB ?_|refine gZ (fun x hx hu=>?_)|refine gY (fun x hx=>?_)|refine gE ?_|refine Both.mk ?_ ?_|refine gS (fun h=>?_) (fun h=>?_)|refine Spl.nt ?_|refine Spl.mk (fun h=>?_) (fun h=>?_))))
          all_goals first | rfl | (exfalso; dsimp only at *; omega)
        · by_cases hn : x = []
          · subst hn
            rw [mayB_yes ⟨e0, e1, hx, fun _ => rfl⟩]
            (repeat' ((conv=>whnf);first|with_reducible refine gA ?_|refine CallE.con ⟨_, h1, ?_⟩|(with_reducible first|refine gB ?_|refine gZ (fun x hx hu=>?_)|refine gY (fun x hx=>?_)|refine gE ?_|refine Both.mk ?_ ?_|refine gS (fun h=>?_) (fun h=>?_)|refine Spl.nt ?_|refine Spl.mk (fun h=>?_) (fun h=>?_))))
            all_goals rfl
          · rw [mayB_no (fun h => hn (h.2.2.2 rfl))]
            (repeat' ((conv=>whnf);first|with_reducible refine gA ?_|refine CallE.con ⟨_, h1, ?_⟩|(with_reducible first|refine gB ?_|refine gZ (fun x hx hu=>?_)|refine gY (fun x hx=>?_)|refine gE ?_|refine Both.mk ?_ ?_|refine gS (fun h=>?_) (fun h=>?_)|refine Spl.nt ?_|refine Spl.mk (fun h=>?_) (fun h=>?_))))
            all_goals first | rfl | exact bl_eq (seq_ff hn) | exact bl_eq (by rw [sne_tt hn]; rfl) | (exfalso; dsimp only at *; omega)
      · rw [mayB_no (fun h => hx h.2.2.1)]
        (repeat' ((conv=>whnf);first|with_reducible refine gA ?_|refine CallE.con ⟨_, h1, ?_⟩|(with_reducible first|refine gB ?_|refine gZ (fun x hx hu=>?_)|refine gY (fun x hx=>?_)|refine gE ?_|refine Both.mk ?_ ?_|refine gS (fun h=>?_) (fun h=>?_)|refine Spl.nt ?_|refine Spl.mk (fun h=>?_) (fun h=>?_))))
        all_goals first | rfl | (exfalso; dsimp only at *; omega)
  · rw [if_pos (by simpa using e0)] at h1
    rw [mayB_no (fun h => e0 h.1)]
    (repeat' ((conv=>whnf);first|with_reducible refine gA ?_|refine CallE.con ⟨_, h1, ?_⟩|(with_reducible first|refine gB ?_|refine gZ (fun x hx hu=>?_)|refine gY (fun x hx=>?_)|refine gE ?_|refine Both.mk ?_ ?_|refine gS (fun h=>?_) (fun h=>?_)|refine Spl.nt ?_|refine Spl.mk (fun h=>?_) (fun h=>?_))))
    rfl
def hexD : List UInt8 := [48, 49, 50, 51, 52, 53, 54, 55, 56, 57, 97, 98, 99, 100, 101, 102]
def signQ (c : UInt8) : List UInt8 := if plainB c = true then [c] else [92, hexD.getD (c.toNat / 16) 0, hexD.getD (c.toNat % 16) 0]
def quoteS (s : List UInt8) : List UInt8 := 34 :: (s.flatMap signQ ++ [34])
def qAcc (s : List UInt8) (k : Nat) : List UInt8 := 34 :: (s.take k).flatMap signQ
def qA (s : List UInt8) (k : Nat) : S := ⟨[(3, .ptr 0 0), (8, .d (.fs 1 (bytesD s))), (9, .d (.it .i64 s.length)), (10, .d (.it .i64 k))], [(0, .cells 2 [.ptr 0 0, .ts 1 (bytesD (qAcc s k)) 4]), (1, .tag 0 76), (4, .tail 5 true)], 5⟩
theorem signQ_len (c : UInt8) : (signQ c).length ≤ 3 := by unfold signQ; split <;> simp
theorem qAcc_len (s : List UInt8) (k : Nat) : (qAcc s k).length ≤ 3 * k + 1 := by
  have key : ∀ l : List UInt8, (l.flatMap signQ).length ≤ 3 * l.length := by
    intro l
    induction l with
    | nil => simp
    | cons a l ih => have := signQ_len a; rw [List.flatMap_cons, List.length_append, List.length_cons]; omega
  have := key (s.take k)
  rw [List.length_take] at this
  unfold qAcc
  rw [List.length_cons]; omega
theorem shr4 (x : UInt8) : (x.toNat : Int).fdiv (2 ^ (min (4 : Int).toNat (IntKind.bits .u8))) = ((x.toNat / 16 : Nat) : Int) := by
  have : ∀ n : Nat, n < 256 → (n : Int).fdiv (2 ^ (min (4 : Int).toNat (IntKind.bits .u8))) = ((n / 16 : Nat) : Int) := by decide +kernel
  exact this _ (by have := x.toNat_lt; omega)
theorem and15 (x : UInt8) : IntKind.u8.wrap ((BitVec.ofInt (IntKind.bits .u8) x.toNat &&& BitVec.ofInt (IntKind.bits .u8) 15).toNat : Int) = ((x.toNat % 16 : Nat) : Int) := by
  have : ∀ n : Nat, n < 256 → IntKind.u8.wrap ((BitVec.ofInt (IntKind.bits .u8) (n : Int) &&& BitVec.ofInt (IntKind.bits .u8) 15).toNat : Int) = ((n % 16 : Nat) : Int) := by decide +kernel
  exact this _ (by have := x.toNat_lt; omega)
theorem bytesD_app (a b : List UInt8) : bytesD (a ++ b) = bytesD a ++ bytesD b := by simp [bytesD]
theorem qAcc_1 {s : List UInt8} {k : Nat} {x : UInt8} (hx : s[k]? = some x) (h : plainB x = true) : bytesD (qAcc s k) ++ [[D.it .u8 x.toNat]] = bytesD (qAcc s (k + 1)) := by
  rw [qAcc, qAcc, take_snoc hx, List.flatMap_append]
  simp only [List.flatMap_cons, List.flatMap_nil, List.append_nil, signQ, h, if_true]
  rw [← List.cons_append, bytesD_app]; rfl
theorem hex_at {n : Nat} {c : UInt8} (h : hexD[((n : Nat) : Int).toNat]? = some c) : c = hexD.getD n 0 := by
  rw [Int.toNat_natCast] at h
  rw [List.getD, h]; rfl
theorem qAcc_2 {s : List UInt8} {k : Nat} {x c d : UInt8} (hx : s[k]? = some x) (h : plainB x = false) (hc : hexD[((x.toNat / 16 : Nat) : Int).toNat]? = some c) (hd : hexD[((x.toNat % 16 : Nat) : Int).toNat]? = some d) :
    bytesD (qAcc s k) ++ [[D.it .u8 92]] ++ [[D.it .u8 c.toNat]] ++ [[D.it .u8 d.toNat]] = bytesD (qAcc s (k + 1)) := by
  rw [qAcc, qAcc, take_snoc hx, List.flatMap_append]
  simp only [List.flatMap_cons, List.flatMap_nil, List.append_nil, signQ, h, Bool.false_eq_true, if_false]
  rw [← hex_at hc, ← hex_at hd, ← List.cons_append, bytesD_app, List.append_assoc, List.append_assoc]; rfl
theorem quote_ok (s : List UInt8) (hs : s.length ≤ 1000000) : FnC Tryz.prog 19 [.d (.st s)] (.d (.st (quoteS s))) := by
  refine FnC.intro ti_ok Tryz.func19 rfl Tryz.ntmps19 Tryz.call19 rfl (Nat.le_of_ble_eq_true rfl) rfl ?_
  (repeat' ((conv=>whnf);first|with_reducible refine gA ?_|with_reducible refine CallI.inl ti_ok i37 rfl ?_ | with_reducible refine CallI.inl ti_ok i82 rfl ?_ | with_reducible refine CallI.ident noEsc (by with_unfolding_all exact rfl) ?_|(with_reducible first|refine gB ?_|refine gZ (fun x hx hu=>?_)|refine gY (fun x hx=>?_)|refine gE ?_|refine Both.mk ?_ ?_|refine gS (fun h=>?_) (fun h=>?_)|refine Spl.nt ?_|refine Spl.mk (fun h=>?_) (fun h=>?_))))
  refine loop_rule ti_ok (fun k : Nat => k ≤ s.length) (qA s) (fun k => s.length - k) 0 (Nat.zero_le _) ⟨⟨rfl, rfl, it_eq (by simp [bytesD]), rfl, trivial⟩, ⟨rfl, rfl, rfl, trivial⟩, rfl⟩ ?_
  intro k hk
  have hb : (bytesD s).length = s.length := by simp [bytesD]
  have hq1 : (bytesD (qAcc s k)).length = (qAcc s k).length := by simp [bytesD]
  have hq2 := qAcc_len s k
  (repeat' ((conv=>whnf);first|with_reducible refine gA ?_|with_reducible refine fun (c : UInt8) hc => ?_ | refine CallE.con ⟨_, plain_ok x, ?_⟩ | with_reducible refine LetI.eq ((x.toNat / 16 : Nat) : Int) (by with_unfolding_all exact shr4 x) ?_ | with_reducible refine LetI.eq ((x.toNat % 16 : Nat) : Int) (by with_unfolding_all exact and15 x) ?_ | with_reducible refine CallI.inl ti_ok i38 rfl ?_ | with_reducible refine CallI.inl ti_ok i37 rfl ?_ | with_reducible refine CallI.inl ti_ok i82 rfl ?_ | with_reducible refine CallI.ident noEsc (by with_unfolding_all exact rfl) ?_|(with_reducible first|refine gB ?_|refine gZ (fun x hx hu=>?_)|refine gY (fun x hx=>?_)|refine gE ?_|refine Both.mk ?_ ?_|refine gS (fun h=>?_) (fun h=>?_)|refine Spl.nt ?_|refine Spl.mk (fun h=>?_) (fun h=>?_))))
  · refine again (k + 1) (by omega) (by dsimp only; omega) (And.intro rfl (And.intro rfl (And.intro rfl (And.intro rfl trivial)))) (And.intro ?_ (And.intro rfl (And.intro rfl trivial))) rfl
    show Ob.cells 2 [.ptr 0 0, .ts 1 (bytesD (qAcc s k) ++ [[.it .u8 x.toNat]]) 4] = _
    rw [qAcc_1 hx h]
  · rename_i c' hc'
    refine again (k + 1) (by omega) (by dsimp only; omega) (And.intro rfl (And.intro rfl (And.intro rfl (And.intro rfl trivial)))) (And.intro ?_ (And.intro rfl (And.intro rfl trivial))) rfl
    show Ob.cells 2 [.ptr 0 0, .ts 1 (bytesD (qAcc s k) ++ [[.it .u8 92]] ++ [[.it .u8 c'.toNat]] ++ [[.it .u8 c.toNat]]) 4] = _
    rw [qAcc_2 hx (by simpa using h) hc' hc]
  · have hk' : k = s.length := by omega
    have e : bytesD (qAcc s k) ++ [[D.it .u8 34]] = bytesD (quoteS s) := by
      rw [quoteS, qAcc, hk', List.take_length, ← List.cons_append, bytesD_app]; rfl
    have e2 : (quoteS s).length = (qAcc s k).length + 1 := by
      have := congrArg List.length e
      simp [bytesD] at this
      omega
    refine ⟨quoteS s, ⟨e, ?_, ?_⟩, rfl⟩
    · show ((bytesD (qAcc s k) ++ [[D.it .u8 34]]).length : Int) = ((quoteS s).length : Int)
      rw [e]; simp [bytesD]
    · omega
end Go.Proofs.YtijdbjjkfkjihaaGreatDoor

/- Texts in quotes, and out of them; nodes as text, and out of it. Conditions: none. -/
namespace Go.Proofs.YtijdbjjkfkjihaaGreatDoor
open Go.Sy
set_option maxRecDepth 100000
set_option linter.all false
def vline (n : Nod) : List UInt8 := if n.d = true then n.p ++ [47, 10] else n.p ++ 32 :: (quoteS n.x ++ [10])
def showN (l : List Nod) : List UInt8 := l.flatMap vline
end Go.Proofs.YtijdbjjkfkjihaaGreatDoor
