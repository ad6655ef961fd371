/- Contracts of the functions that the law reaches, and the law. Conditions: none. -/
import Derived.Test.YtijdbjjkfkjihaaGreatDoorKA
import Derived.Test.YtijdbjjkfkjihaaGreatDoorSC
set_option linter.all false
/- Entries: may they be? Conditions: none. -/
namespace Go.Proofs.YtijdbjjkfkjihaaGreatDoor
open Go.Sy
set_option maxRecDepth 100000
set_option linter.all false
structure Ent where
  u : Bool
  p : Int
  n : List UInt8
  t : Int
deriving DecidableEq
def encE (x : Ent) : List D := [.bl x.u, .it .i64 x.p, .st x.n, .it .i64 x.t]
def RE (x : Ent) : Prop := x.u = false ∧ x.p = 0 ∧ x.n = [] ∧ x.t = 0 ∨ x.u = true ∧ 0 ≤ x.p ∧ x.p < 16 ∧ 1 ≤ x.t ∧ x.t < 16 ∧ nameB x.n = true
instance (x : Ent) : Decidable (RE x) := by unfold RE; infer_instance
theorem e_ff {p : Prop} [Decidable p] (h : ¬ p) : AV.d (.bl false) = AV.d (.bl (decide p)) := by rw [decide_eq_false h]
theorem e_of {e : Bool} {p : Prop} [Decidable p] (h : e = true ↔ p) : AV.d (.bl e) = AV.d (.bl (decide p)) := by
  have : e = decide p := by rw [Bool.eq_iff_iff, h, decide_eq_true_eq]
  rw [this]
theorem eqE4 (a a' : Bool) (b b' : Int) (c c' : List UInt8) (d d' : Int) : eqDs [.bl a, .it .i64 b, .st c, .it .i64 d] [.bl a', .it .i64 b', .st c', .it .i64 d'] = decide (a = a' ∧ b = b' ∧ c = c' ∧ d = d') := by
  rw [Bool.eq_iff_iff]; simp [eqDs, eqD]
theorem e_tr {a b : Bool} {v : AV} (h : a = b) (h2 : AV.d (.bl b) = v) : AV.d (.bl a) = v := by rw [h, h2]
theorem re_ok (x : Ent) : FnC Tryz.prog 168 [.dg 4 (encE x)] (.d (.bl (decide (RE x)))) := by
  refine FnC.intro ti_ok Tryz.func168 rfl Tryz.ntmps168 Tryz.call168 rfl (Nat.le_of_ble_eq_true rfl) rfl ?_
  have hn := name_ok x.n
  cases hu : x.u with
  | false =>
    have hu' : (!x.u) = true := by rw [hu]; rfl
    (repeat' ((conv=>whnf);first|with_reducible refine gA ?_|(with_reducible first|refine gB ?_|refine gZ (fun x hx hu=>?_)|refine gY (fun x hx=>?_)|refine gE ?_|refine Both.mk ?_ ?_|refine gS (fun h=>?_) (fun h=>?_)|refine Spl.nt ?_|refine Spl.mk (fun h=>?_) (fun h=>?_))))
    exact e_tr (eqE4 _ _ _ _ _ _ _ _) (e_of (by simp [RE, hu]))
  | true =>
    have hu' : (!x.u) = false := by rw [hu]; rfl
    (repeat' ((conv=>whnf);first|with_reducible refine gA ?_|(refine CallE.con ⟨_, hn, ?_⟩) | with_reducible refine CallI.inl ti_ok i189 rfl ?_|(with_reducible first|refine gB ?_|refine gZ (fun x hx hu=>?_)|refine gY (fun x hx=>?_)|refine gE ?_|refine Both.mk ?_ ?_|refine gS (fun h=>?_) (fun h=>?_)|refine Spl.nt ?_|refine Spl.mk (fun h=>?_) (fun h=>?_))))
    all_goals first
      | (refine e_ff ?_; simp only [RE, hu]; simp; omega)
      | exact e_of ⟨fun hb => .inr ⟨hu, by omega, by omega, by omega, by omega, hb⟩, fun h => h.elim (fun h => by rw [hu] at h; cases h.1) fun h => h.2.2.2.2.2⟩
end Go.Proofs.YtijdbjjkfkjihaaGreatDoor

/- Entries as sectors. Conditions: none. -/
namespace Go.Proofs.YtijdbjjkfkjihaaGreatDoor
open Go.Sy
set_option maxRecDepth 100000
set_option linter.all false
def by8e (n : Int) : UInt8 := UInt8.ofNat n.toNat
theorem by8e_ok {n : Int} (h : 0 ≤ n ∧ n < 256) : ((by8e n).toNat : Int) = n := by
  unfold by8e
  rw [UInt8.toNat_ofNat']
  omega
/-- The sector of an entry. -/
def entS (x : Ent) : List UInt8 := if x.u = true then [1, by8e x.p, by8e x.t, by8e x.n.length, 0, 0, 0, 0, 0, 0, 0, 0, 0, 0, 0, 0] ++ x.n ++ List.replicate (16 - x.n.length) 0 else zeroS
def c16 (x : Ent) : List D := [.it .u8 1, .it .u8 x.p, .it .u8 x.t, .it .u8 (x.n.length : Nat), .it .u8 0, .it .u8 0, .it .u8 0, .it .u8 0, .it .u8 0, .it .u8 0, .it .u8 0, .it .u8 0, .it .u8 0, .it .u8 0, .it .u8 0, .it .u8 0]
theorem st_all (l : List AV) : l = [] ++ l ++ [] := by simp
theorem bytes_flat : ∀ (n : List UInt8), (bytesD n).flatten = encS n
  | [] => rfl
  | b :: n => by show [D.it .u8 b.toNat] ++ (bytesD n).flatten = D.it .u8 b.toNat :: encS n; rw [bytes_flat n]; rfl
theorem encS_rep (k : Nat) : encS (List.replicate k 0) = List.replicate k (.it .u8 0) := by unfold encS; rw [List.map_replicate]; rfl
theorem entS_len (x : Ent) (hx : RE x) : (entS x).length = 32 := by
  unfold entS
  unfold RE at hx
  split
  · rename_i hu
    rcases hx with h | ⟨_, _, _, _, _, hn⟩
    · rw [hu] at h; cases h.1
    · have : x.n.length ≤ 8 := by
        unfold nameB at hn
        simp only [Bool.and_eq_true, decide_eq_true_eq] at hn; omega
      simp; omega
  · rfl
theorem entS_enc {x : Ent} (hu : x.u = true) (hp : 0 ≤ x.p ∧ x.p < 16) (ht : 0 ≤ x.t ∧ x.t < 16) (hn : x.n.length ≤ 16) :
    encS (entS x) = c16 x ++ encS x.n ++ List.replicate (16 - x.n.length) (.it .u8 0) := by
  unfold entS
  rw [if_pos hu]
  show encS (_ ++ x.n ++ _) = _
  unfold encS
  rw [List.map_append, List.map_append]
  have e2 : List.map (fun b : UInt8 => D.it .u8 b.toNat) [1, by8e x.p, by8e x.t, by8e x.n.length, 0, 0, 0, 0, 0, 0, 0, 0, 0, 0, 0, 0] = c16 x := by
    show [_, D.it .u8 (by8e x.p).toNat, D.it .u8 (by8e x.t).toNat, D.it .u8 (by8e x.n.length).toNat, _, _, _, _, _, _, _, _, _, _, _, _] = _
    rw [by8e_ok (by omega), by8e_ok (by omega), by8e_ok (by omega)]; rfl
  rw [e2]
  have e3 := encS_rep (16 - x.n.length)
  unfold encS at e3
  rw [e3]
theorem entS_cells {x : Ent} (hu : x.u = true) (hp : 0 ≤ x.p ∧ x.p < 16) (ht : 0 ≤ x.t ∧ x.t < 16) (hn : x.n.length ≤ 16) :
    (encS (entS x)).map AV.d = ((c16 x ++ List.replicate 16 (D.it .u8 0)).map AV.d).take 16 ++ (bytesD x.n).flatten.map AV.d ++ ((c16 x ++ List.replicate 16 (D.it .u8 0)).map AV.d).drop (16 + x.n.length * 1) := by
  have e1 := entS_enc hu hp ht hn
  have hl : (c16 x).length = 16 := rfl
  rw [e1, bytes_flat, List.map_append, List.map_append, List.map_append]
  have t1 : ((c16 x).map AV.d ++ (List.replicate 16 (D.it .u8 0)).map AV.d).take 16 = (c16 x).map AV.d := List.take_left' (by simp [hl])
  have t2 : ((c16 x).map AV.d ++ (List.replicate 16 (D.it .u8 0)).map AV.d).drop (16 + x.n.length * 1) = (List.replicate (16 - x.n.length) (D.it .u8 0)).map AV.d := by
    rw [List.drop_append, List.drop_eq_nil_of_le (by simp [hl]), List.nil_append, List.length_map, hl, List.map_replicate, List.map_replicate, List.drop_replicate]
    congr 1; omega
  rw [t1, t2]
theorem bytesD_l (n : List UInt8) : (bytesD n).length = n.length := by unfold bytesD; exact List.length_map ..
theorem entS_cells2 {x : Ent} {i j : Nat} (hi : i = 16) (hj : j = 16 + x.n.length * 1) (hu : x.u = true) (hp : 0 ≤ x.p ∧ x.p < 16) (ht : 0 ≤ x.t ∧ x.t < 16) (hn : x.n.length ≤ 16) :
    (encS (entS x)).map AV.d = ((c16 x ++ List.replicate 16 (D.it .u8 0)).map AV.d).take i ++ (bytesD x.n).flatten.map AV.d ++ ((c16 x ++ List.replicate 16 (D.it .u8 0)).map AV.d).drop j := by
  subst hi hj; exact entS_cells hu hp ht hn
def entR (x : Ent) : AV := if RE x then .tup [.dg 32 (encS (entS x)), .d (.bl true)] else .tup [.dg 32 (encS zeroS), .d (.bl false)]
set_option maxHeartbeats 4000000 in
theorem ent_ok (x : Ent) : FnC Tryz.prog 125 [.dg 4 (encE x)] (entR x) := by
  have hr := re_ok x
  unfold entR
  by_cases h : RE x
  · have hl := entS_len x h
    rw [if_pos h]
    rw [decide_eq_true h] at hr
    cases hu : x.u with
    | true =>
      obtain ⟨hp, ht, hn⟩ : (0 ≤ x.p ∧ x.p < 16) ∧ (0 ≤ x.t ∧ x.t < 16) ∧ x.n.length ≤ 8 := by
        unfold RE at h
        rcases h with h | ⟨_, h1, h2, h3, h4, hn⟩
        · rw [hu] at h; cases h.1
        · unfold nameB at hn
          simp only [Bool.and_eq_true, decide_eq_true_eq] at hn; omega
      refine FnC.intro ti_ok Tryz.func125 rfl Tryz.ntmps125 Tryz.call125 rfl (Nat.le_of_ble_eq_true rfl) rfl ?_
      (repeat' ((conv=>whnf);first|with_reducible refine gA ?_|((with_reducible refine callE_id ?_); (refine CallE.con ⟨_, hr, ?_⟩)) | ((with_reducible refine letC_id ?_); first | refine LetC.mk ((c16 x ++ List.replicate 16 (D.it .u8 0)).map AV.d) rfl ?_ | refine LetC.mk ((encS (entS x)).map AV.d) (entS_cells2 rfl (by show 0 + 16 * 1 + (bytesD x.n).length * 1 = _; rw [bytesD_l]) hu (by omega) (by omega) (by omega)) ?_ | refine LetC.mk ((encS (entS x)).map AV.d) (st_all _) ?_ | refine LetC.now ?_) | refine AtA.eq (ld_sec rfl rfl hl) ?_ | with_reducible refine AtA.mk' ?_|(with_reducible first|refine gB ?_|refine gZ (fun x hx hu=>?_)|refine gY (fun x hx=>?_)|refine gE ?_|refine Both.mk ?_ ?_|refine gS (fun h=>?_) (fun h=>?_)|refine Spl.nt ?_|refine Spl.mk (fun h=>?_) (fun h=>?_))))
      conv => whnf
      conv in (ldA _ _ _) => tactic => exact ld_sec rfl rfl hl
      rfl
    | false =>
      have he : entS x = zeroS := by unfold entS; rw [hu]; rfl
      rw [he]
      refine FnC.intro ti_ok Tryz.func125 rfl Tryz.ntmps125 Tryz.call125 rfl (Nat.le_of_ble_eq_true rfl) rfl ?_
      (repeat' ((conv=>whnf);first|with_reducible refine gA ?_|((with_reducible refine callE_id ?_); (refine CallE.con ⟨_, hr, ?_⟩)) | with_reducible refine AtA.mk' ?_|(with_reducible first|refine gB ?_|refine gZ (fun x hx hu=>?_)|refine gY (fun x hx=>?_)|refine gE ?_|refine Both.mk ?_ ?_|refine gS (fun h=>?_) (fun h=>?_)|refine Spl.nt ?_|refine Spl.mk (fun h=>?_) (fun h=>?_))))
      all_goals rfl
  · rw [if_neg h]
    rw [decide_eq_false h] at hr
    refine FnC.intro ti_ok Tryz.func125 rfl Tryz.ntmps125 Tryz.call125 rfl (Nat.le_of_ble_eq_true rfl) rfl ?_
    (repeat' ((conv=>whnf);first|with_reducible refine gA ?_|((with_reducible refine callE_id ?_); (refine CallE.con ⟨_, hr, ?_⟩)) | with_reducible refine AtA.mk' ?_|(with_reducible first|refine gB ?_|refine gZ (fun x hx hu=>?_)|refine gY (fun x hx=>?_)|refine gE ?_|refine Both.mk ?_ ?_|refine gS (fun h=>?_) (fun h=>?_)|refine Spl.nt ?_|refine Spl.mk (fun h=>?_) (fun h=>?_))))
    all_goals rfl
end Go.Proofs.YtijdbjjkfkjihaaGreatDoor

/- Entries as sectors, by the document's answer. Conditions: none. -/
namespace Go.Proofs.YtijdbjjkfkjihaaGreatDoor
open Go.Sy
set_option maxRecDepth 100000
set_option linter.all false
end Go.Proofs.YtijdbjjkfkjihaaGreatDoor

/- Some bytes of a sector. Conditions: none. -/
namespace Go.Proofs.YtijdbjjkfkjihaaGreatDoor
open Go.Sy
set_option maxRecDepth 100000
set_option linter.all false
theorem bytes_flat' : ∀ (n : List UInt8), (bytesD n).flatten = encS n
  | [] => rfl
  | b :: n => by show [D.it .u8 b.toNat] ++ (bytesD n).flatten = D.it .u8 b.toNat :: encS n; rw [bytes_flat' n]; rfl
set_option maxHeartbeats 4000000 in
theorem cut_ok (s : List UInt8) (hs : s.length = 32) (n : Nat) (hn : n < 256) : FnC Tryz.prog 124 [.dg 32 (encS s), .d (.it .i64 16), .d (.it .i64 (n : Nat))] (.d (.fs 1 (bytesD (if n ≤ 16 then (s.drop 16).take n else [])))) := by
  have hf := fits_ok 16 (n : Nat)
  by_cases h : n ≤ 16
  · rw [if_pos h]
    rw [decide_eq_true (by omega)] at hf
    refine FnC.intro ti_ok Tryz.func124 rfl Tryz.ntmps124 Tryz.call124 rfl (Nat.le_of_ble_eq_true rfl) rfl ?_
    (repeat' ((conv=>whnf);first|with_reducible refine gA ?_|((with_reducible refine callE_id ?_); first | refine CallE.con ⟨_, hf, ?_⟩ | refine CallE.inl ?_) | with_reducible refine CallI.inl ti_ok i58 rfl ?_|(with_reducible first|refine gB ?_|refine gZ (fun x hx hu=>?_)|refine gY (fun x hx=>?_)|refine gE ?_|refine Both.mk ?_ ?_|refine gS (fun h=>?_) (fun h=>?_)|refine Spl.nt ?_|refine Spl.mk (fun h=>?_) (fun h=>?_))))
    have hlen : ((16 + (n : Int)).toNat - Int.toNat 16) = n := by omega
    have hL : ((s.drop 16).take n).length = n := by rw [List.length_take, List.length_drop, hs]; omega
    refine ⟨bytesD ((s.drop 16).take n), ⟨?_, ?_, ?_, ?_, ?_⟩, ?_⟩
    · show 0 + Int.toNat 16 * 1 + ((16 + (n:Int)).toNat - Int.toNat 16) * 1 ≤ 32
      omega
    · show (bytesD ((s.drop 16).take n)).length = ((16 + (n:Int)).toNat - Int.toNat 16)
      rw [hlen]; unfold bytesD; rw [List.length_map, hL]
    · intro x hx
      show x.length = 1
      obtain ⟨b, _, rfl⟩ := List.mem_map.1 hx
      rfl
    · show (((encS s).map AV.d).drop (0 + Int.toNat 16 * 1)).take (((16 + (n:Int)).toNat - Int.toNat 16) * 1) = _
      rw [hlen, bytes_flat', Nat.mul_one]
      unfold encS
      rw [List.map_take, List.map_drop, List.map_take, List.map_drop]; rfl
    · show 0 + ((16 + (n:Int)).toNat - Int.toNat 16) ≤ 1073741824
      omega
    (repeat' ((conv=>whnf);first|with_reducible refine gA ?_|(with_reducible first|refine gB ?_|refine gZ (fun x hx hu=>?_)|refine gY (fun x hx=>?_)|refine gE ?_|refine Both.mk ?_ ?_|refine gS (fun h=>?_) (fun h=>?_)|refine Spl.nt ?_|refine Spl.mk (fun h=>?_) (fun h=>?_))))
    all_goals rfl
  · rw [if_neg h]
    rw [decide_eq_false (by omega)] at hf
    refine FnC.intro ti_ok Tryz.func124 rfl Tryz.ntmps124 Tryz.call124 rfl (Nat.le_of_ble_eq_true rfl) rfl ?_
    (repeat' ((conv=>whnf);first|with_reducible refine gA ?_|((with_reducible refine callE_id ?_); refine CallE.con ⟨_, hf, ?_⟩)|(with_reducible first|refine gB ?_|refine gZ (fun x hx hu=>?_)|refine gY (fun x hx=>?_)|refine gE ?_|refine Both.mk ?_ ?_|refine gS (fun h=>?_) (fun h=>?_)|refine Spl.nt ?_|refine Spl.mk (fun h=>?_) (fun h=>?_))))
    all_goals (show AV.d (.fs 1 []) = _; rfl)
end Go.Proofs.YtijdbjjkfkjihaaGreatDoor

namespace Go.Proofs.YtijdbjjkfkjihaaGreatDoor
open Go.Sy
set_option maxRecDepth 100000
set_option linter.all false
end Go.Proofs.YtijdbjjkfkjihaaGreatDoor

namespace Go.Proofs.YtijdbjjkfkjihaaGreatDoor
open Go.Sy
set_option maxRecDepth 100000
set_option linter.all false
end Go.Proofs.YtijdbjjkfkjihaaGreatDoor

namespace Go.Proofs.YtijdbjjkfkjihaaGreatDoor
open Go.Sy
set_option maxRecDepth 100000
set_option linter.all false
def joinR (l : List (List UInt8)) : List UInt8 := if l = [] then [47] else joinP l
def tup3 (a b : List UInt8) (e : Int) : AV := .tup [.d (.st a), .d (.st b), .d (.it .i64 e)]
def parR (p : List UInt8) : AV :=
  if (splitP p).2 ≠ 0 then tup3 [] [] (splitP p).2 else
  if (splitP p).1 = [] then tup3 [] [] 1 else tup3 (joinR (splitP p).1.dropLast) ((splitP p).1.getLastD []) 0
theorem all_name {l : List (List UInt8)} (h : l.all nameB = true) : ∀ w ∈ l, w.length ≤ 8 := fun w hw => by
  have := List.all_eq_true.1 h w hw
  simp only [nameB, Bool.and_eq_true, decide_eq_true_eq] at this
  exact this.1.2.1
theorem splitP_name (p : List UInt8) : (splitP p).1.length ≤ 4 ∧ (splitP p).1.all nameB = true ∧ ((splitP p).1 ≠ [] → (splitP p).2 = 0) := by
  unfold splitP
  split
  · exact ⟨by simp, rfl, fun h => absurd rfl h⟩
  · split
    · exact ⟨by simp, rfl, fun h => absurd rfl h⟩
    · split
      · split
        · rename_i h; exact ⟨h.1, h.2, fun _ => rfl⟩
        · exact ⟨by simp, rfl, fun h => absurd rfl h⟩
      · exact ⟨by simp, rfl, fun h => absurd rfl h⟩
theorem pathJoin_ok (l : List (List UInt8)) (hn : l.length ≤ 1000000) (hl : (Lib.join l [47]).length ≤ 1000000) : FnC Tryz.prog 64 [.d (.fs 1 (l.map stL))] (.d (.st (47 :: Lib.join l [47]))) := by
  refine FnC.intro ti_ok Tryz.func64 rfl Tryz.ntmps64 Tryz.call64 rfl (Nat.le_of_ble_eq_true rfl) rfl ?_
  (repeat' ((conv=>whnf);first|with_reducible refine gA ?_|refine CallE.con ⟨_, join_ok l [47] hn (by omega), ?_⟩|(with_reducible first|refine gB ?_|refine gZ (fun x hx hu=>?_)|refine gY (fun x hx=>?_)|refine gE ?_|refine Both.mk ?_ ?_|refine gS (fun h=>?_) (fun h=>?_)|refine Spl.nt ?_|refine Spl.mk (fun h=>?_) (fun h=>?_))))
  rfl
theorem tup3_st {a b x : List UInt8} (h : a = b) : AV.tup [.d (.st a), .d (.st x), .d (.it .i64 0)] = tup3 b x 0 := by rw [h]; rfl
theorem par_ok (p : List UInt8) (hp : p.length ≤ 100000) : FnC Tryz.prog 83 [.d (.st p)] (parR p) := by
  have h1 := pathSplit_ok p hp
  obtain ⟨n1, n2, n3⟩ := splitP_name p
  unfold parR
  generalize splitP p = sp at *
  obtain ⟨l, e⟩ := sp
  simp only at n1 n2 n3
  have n4 := all_name n2
  match l with
  | [] =>
    by_cases he : e = 0
    · subst he
      show FnC _ _ _ (tup3 [] [] 1)
      refine FnC.intro ti_ok Tryz.func83 rfl Tryz.ntmps83 Tryz.call83 rfl (Nat.le_of_ble_eq_true rfl) rfl ?_
      (repeat' ((conv=>whnf);first|with_reducible refine gA ?_|refine CallE.con ⟨_, h1, ?_⟩|(with_reducible first|refine gB ?_|refine gZ (fun x hx hu=>?_)|refine gY (fun x hx=>?_)|refine gE ?_|refine Both.mk ?_ ?_|refine gS (fun h=>?_) (fun h=>?_)|refine Spl.nt ?_|refine Spl.mk (fun h=>?_) (fun h=>?_))))
      rfl
    · simp only [ne_eq, he, not_false_eq_true, if_true]
      refine FnC.intro ti_ok Tryz.func83 rfl Tryz.ntmps83 Tryz.call83 rfl (Nat.le_of_ble_eq_true rfl) rfl ?_
      (repeat' ((conv=>whnf);first|with_reducible refine gA ?_|refine CallE.con ⟨_, h1, ?_⟩|(with_reducible first|refine gB ?_|refine gZ (fun x hx hu=>?_)|refine gY (fun x hx=>?_)|refine gE ?_|refine Both.mk ?_ ?_|refine gS (fun h=>?_) (fun h=>?_)|refine Spl.nt ?_|refine Spl.mk (fun h=>?_) (fun h=>?_))))
      rfl
  | [a] =>
    obtain rfl := n3 (by simp)
    replace h1 : FnC _ _ _ (.tup [.d (.fs 1 [[.st a]]), .d (.it .i64 0)]) := h1
    have la := n4 a (by simp)
    show FnC _ _ _ (tup3 (joinR []) a 0)
    have hj := pathJoin_ok [] (by simp) (by simp [Lib.join, List.intercalate]; try omega)
    refine FnC.intro ti_ok Tryz.func83 rfl Tryz.ntmps83 Tryz.call83 rfl (Nat.le_of_ble_eq_true rfl) rfl ?_
    (repeat' ((conv=>whnf);first|with_reducible refine gA ?_|refine CallE.con ⟨_, h1, ?_⟩ | refine CallP.mk ⟨_, hj, ?_⟩|(with_reducible first|refine gB ?_|refine gZ (fun x hx hu=>?_)|refine gY (fun x hx=>?_)|refine gE ?_|refine Both.mk ?_ ?_|refine gS (fun h=>?_) (fun h=>?_)|refine Spl.nt ?_|refine Spl.mk (fun h=>?_) (fun h=>?_))))
    exact (tup3_st (x := a) (show 47 :: Lib.join [] [47] = joinR [] by simp [joinR, joinP, Lib.join, List.intercalate]) : _)
  | [a, b] =>
    obtain rfl := n3 (by simp)
    replace h1 : FnC _ _ _ (.tup [.d (.fs 1 [[.st a], [.st b]]), .d (.it .i64 0)]) := h1
    have la := n4 a (by simp); have lb := n4 b (by simp)
    show FnC _ _ _ (tup3 (joinR [a]) b 0)
    have hj := pathJoin_ok [a] (by simp) (by simp [Lib.join, List.intercalate]; try omega)
    refine FnC.intro ti_ok Tryz.func83 rfl Tryz.ntmps83 Tryz.call83 rfl (Nat.le_of_ble_eq_true rfl) rfl ?_
    (repeat' ((conv=>whnf);first|with_reducible refine gA ?_|refine CallE.con ⟨_, h1, ?_⟩ | refine CallP.mk ⟨_, hj, ?_⟩|(with_reducible first|refine gB ?_|refine gZ (fun x hx hu=>?_)|refine gY (fun x hx=>?_)|refine gE ?_|refine Both.mk ?_ ?_|refine gS (fun h=>?_) (fun h=>?_)|refine Spl.nt ?_|refine Spl.mk (fun h=>?_) (fun h=>?_))))
    exact (tup3_st (x := b) (show 47 :: Lib.join [a] [47] = joinR [a] by simp [joinR, joinP, Lib.join, List.intercalate]) : _)
  | [a, b, c] =>
    obtain rfl := n3 (by simp)
    replace h1 : FnC _ _ _ (.tup [.d (.fs 1 [[.st a], [.st b], [.st c]]), .d (.it .i64 0)]) := h1
    have la := n4 a (by simp); have lb := n4 b (by simp); have lc := n4 c (by simp)
    show FnC _ _ _ (tup3 (joinR [a, b]) c 0)
    have hj := pathJoin_ok [a, b] (by simp) (by simp [Lib.join, List.intercalate]; try omega)
    refine FnC.intro ti_ok Tryz.func83 rfl Tryz.ntmps83 Tryz.call83 rfl (Nat.le_of_ble_eq_true rfl) rfl ?_
    (repeat' ((conv=>whnf);first|with_reducible refine gA ?_|refine CallE.con ⟨_, h1, ?_⟩ | refine CallP.mk ⟨_, hj, ?_⟩|(with_reducible first|refine gB ?_|refine gZ (fun x hx hu=>?_)|refine gY (fun x hx=>?_)|refine gE ?_|refine Both.mk ?_ ?_|refine gS (fun h=>?_) (fun h=>?_)|refine Spl.nt ?_|refine Spl.mk (fun h=>?_) (fun h=>?_))))
    exact (tup3_st (x := c) (show 47 :: Lib.join [a, b] [47] = joinR [a, b] by simp [joinR, joinP, Lib.join, List.intercalate]) : _)
  | [a, b, c, d] =>
    obtain rfl := n3 (by simp)
    replace h1 : FnC _ _ _ (.tup [.d (.fs 1 [[.st a], [.st b], [.st c], [.st d]]), .d (.it .i64 0)]) := h1
    have la := n4 a (by simp); have lb := n4 b (by simp); have lc := n4 c (by simp); have ld := n4 d (by simp)
    show FnC _ _ _ (tup3 (joinR [a, b, c]) d 0)
    have hj := pathJoin_ok [a, b, c] (by simp) (by simp [Lib.join, List.intercalate]; try omega)
    refine FnC.intro ti_ok Tryz.func83 rfl Tryz.ntmps83 Tryz.call83 rfl (Nat.le_of_ble_eq_true rfl) rfl ?_
    (repeat' ((conv=>whnf);first|with_reducible refine gA ?_|refine CallE.con ⟨_, h1, ?_⟩ | refine CallP.mk ⟨_, hj, ?_⟩|(with_reducible first|refine gB ?_|refine gZ (fun x hx hu=>?_)|refine gY (fun x hx=>?_)|refine gE ?_|refine Both.mk ?_ ?_|refine gS (fun h=>?_) (fun h=>?_)|refine Spl.nt ?_|refine Spl.mk (fun h=>?_) (fun h=>?_))))
    exact (tup3_st (x := d) (show 47 :: Lib.join [a, b, c] [47] = joinR [a, b, c] by simp [joinR, joinP, Lib.join, List.intercalate]) : _)
  | a :: b :: c :: d :: e :: r => simp at n1
end Go.Proofs.YtijdbjjkfkjihaaGreatDoor

namespace Go.Proofs.YtijdbjjkfkjihaaGreatDoor
open Go.Sy
set_option maxRecDepth 100000
set_option linter.all false
theorem mayB_no {n : Nod} (h : ¬ ((splitP n.p).2 = 0 ∧ (splitP n.p).1 ≠ [] ∧ n.x.length ≤ 128 ∧ (n.d = true → n.x = []))) : mayB n = false := decide_eq_false h
theorem mayB_yes {n : Nod} (h : (splitP n.p).2 = 0 ∧ (splitP n.p).1 ≠ [] ∧ n.x.length ≤ 128 ∧ (n.d = true → n.x = [])) : mayB n = true := decide_eq_true h
theorem vmay_ok (n : Nod) (hp : n.p.length ≤ 100000) : FnC Tryz.prog 41 [.dg 3 (encN n)] (.d (.bl (mayB n))) := by
  refine FnC.intro ti_ok Tryz.func41 rfl Tryz.ntmps41 Tryz.call41 rfl (Nat.le_of_ble_eq_true rfl) rfl ?_
  obtain ⟨p, d, x⟩ := n
  have h1 := par_ok p hp
  unfold parR at h1
  by_cases e0 : (splitP p).2 = 0
  · rw [if_neg (by simpa using e0)] at h1
    by_cases e1 : (splitP p).1 = []
    · rw [if_pos e1] at h1
      rw [mayB_no (fun h => h.2.1 e1)]
      (repeat' ((conv=>whnf);first|with_reducible refine gA ?_|refine CallE.con ⟨_, h1, ?_⟩|(with_reducible first|refine gB ?_|refine gZ (fun x hx hu=>?_)|refine gY (fun x hx=>?_)|refine gE ?_|refine Both.mk ?_ ?_|refine gS (fun h=>?_) (fun h=>?_)|refine Spl.nt ?_|refine Spl.mk (fun h=>?_) (fun h=>?_))))
      rfl
    · rw [if_neg e1] at h1
      by_cases hx : x.length ≤ 128
      · cases d
        · rw [mayB_yes ⟨e0, e1, hx, fun h => by cases h⟩]
          (repeat' ((conv=>whnf);first|with_reducible refine gA ?_|refine CallE.con ⟨_, h1, ?_⟩|(with_reducible first|refine gB ?_|refine gZ (fun x hx hu=>?_)|refine gY (fun x hx=>?_)|refine gE ?_|refine Both.mk ?_ ?_|refine gS (fun h=>?_) (fun h=>?_)|refine Spl.nt ?_|refine Spl.mk (fun h=>?_) (fun h=>?_))))
          all_goals first | rfl | (exfalso; dsimp only at *; omega)
        · by_cases hn : x = []
          · subst hn
            rw [mayB_yes ⟨e0, e1, hx, fun _ => rfl⟩]
            (repeat' ((conv=>whnf);first|with_reducible refine gA ?_|refine CallE.con ⟨_, h1, ?_⟩|(with_reducible first|refine gB ?_|refine gZ (fun x hx hu=>?_)|refine gY (fun x hx=>?_)|refine gE ?_|refine Both.mk ?_ ?_|refine gS (fun h=>?_) (fun h=>?_)|refine Spl.nt ?_|refine Spl.mk (fun h=>?_) (fun h=>?_))))
            all_goals rfl
          · rw [mayB_no (fun h => hn (h.2.2.2 rfl))]
            (repeat' ((conv=>whnf);first|with_reducible refine gA ?_|refine CallE.con ⟨_, h1, ?_⟩|(with_reducible first|refine gB ?_|refine gZ (fun x hx hu=>?_)|refine gY (fun x hx=>?_)|refine gE ?_|refine Both.mk ?_ ?_|refine gS (fun h=>?_) (fun h=>?_)|refine Spl.nt ?_|refine Spl.mk (fun h=>?_) (fun h=>?_))))
            all_goals first | rfl | exact bl_eq (seq_ff hn) | exact bl_eq (by rw [sne_tt hn]; rfl) | (exfalso; dsimp only at *; omega)
      · rw [mayB_no (fun h => hx h.2.2.1)]
        (repeat' ((conv=>whnf);first|with_reducible refine gA ?_|refine CallE.con ⟨_, h1, ?_⟩|(with_reducible first|refine gB ?_|refine gZ (fun x hx hu=>?_)|refine gY (fun x hx=>?_)|refine gE ?_|refine Both.mk ?_ ?_|refine gS (fun h=>?_) (fun h=>?_)|refine Spl.nt ?_|refine Spl.mk (fun h=>?_) (fun h=>?_))))
        all_goals first | rfl | (exfalso; dsimp only at *; omega)
  · rw [if_pos (by simpa using e0)] at h1
    rw [mayB_no (fun h => e0 h.1)]
    (repeat' ((conv=>whnf);first|with_reducible refine gA ?_|refine CallE.con ⟨_, h1, ?_⟩|(with_reducible first|refine gB ?_|refine gZ (fun x hx hu=>?_)|refine gY (fun x hx=>?_)|refine gE ?_|refine Both.mk ?_ ?_|refine gS (fun h=>?_) (fun h=>?_)|refine Spl.nt ?_|refine Spl.mk (fun h=>?_) (fun h=>?_))))
    rfl
def hexD : List UInt8 := [48, 49, 50, 51, 52, 53, 54, 55, 56, 57, 97, 98, 99, 100, 101, 102]
def signQ (c : UInt8) : List UInt8 := if plainB c = true then [c] else [92, hexD.getD (c.toNat / 16) 0, hexD.getD (c.toNat % 16) 0]
def quoteS (s : List UInt8) : List UInt8 := 34 :: (s.flatMap signQ ++ [34])
def qAcc (s : List UInt8) (k : Nat) : List UInt8 := 34 :: (s.take k).flatMap signQ
def qA (s : List UInt8) (k : Nat) : S := ⟨[(3, .ptr 0 0), (8, .d (.fs 1 (bytesD s))), (9, .d (.it .i64 s.length)), (10, .d (.it .i64 k))], [(0, .cells 2 [.ptr 0 0, .ts 1 (bytesD (qAcc s k)) 4]), (1, .tag 0 76), (4, .tail 5 true)], 5⟩
theorem signQ_len (c : UInt8) : (signQ c).length ≤ 3 := by unfold signQ; split <;> simp
theorem qAcc_len (s : List UInt8) (k : Nat) : (qAcc s k).length ≤ 3 * k + 1 := by
  have key : ∀ l : List UInt8, (l.flatMap signQ).length ≤ 3 * l.length := by
    intro l
    induction l with
    | nil => simp
    | cons a l ih => have := signQ_len a; rw [List.flatMap_cons, List.length_append, List.length_cons]; omega
  have := key (s.take k)
  rw [List.length_take] at this
  unfold qAcc
  rw [List.length_cons]; omega
theorem shr4 (x : UInt8) : (x.toNat : Int).fdiv (2 ^ (min (4 : Int).toNat (IntKind.bits .u8))) = ((x.toNat / 16 : Nat) : Int) := by
  have : ∀ n : Nat, n < 256 → (n : Int).fdiv (2 ^ (min (4 : Int).toNat (IntKind.bits .u8))) = ((n / 16 : Nat) : Int) := by decide +kernel
  exact this _ (by have := x.toNat_lt; omega)
theorem and15 (x : UInt8) : IntKind.u8.wrap ((BitVec.ofInt (IntKind.bits .u8) x.toNat &&& BitVec.ofInt (IntKind.bits .u8) 15).toNat : Int) = ((x.toNat % 16 : Nat) : Int) := by
  have : ∀ n : Nat, n < 256 → IntKind.u8.wrap ((BitVec.ofInt (IntKind.bits .u8) (n : Int) &&& BitVec.ofInt (IntKind.bits .u8) 15).toNat : Int) = ((n % 16 : Nat) : Int) := by decide +kernel
  exact this _ (by have := x.toNat_lt; omega)
theorem bytesD_app (a b : List UInt8) : bytesD (a ++ b) = bytesD a ++ bytesD b := by simp [bytesD]
theorem qAcc_1 {s : List UInt8} {k : Nat} {x : UInt8} (hx : s[k]? = some x) (h : plainB x = true) : bytesD (qAcc s k) ++ [[D.it .u8 x.toNat]] = bytesD (qAcc s (k + 1)) := by
  rw [qAcc, qAcc, take_snoc hx, List.flatMap_append]
  simp only [List.flatMap_cons, List.flatMap_nil, List.append_nil, signQ, h, if_true]
  rw [← List.cons_append, bytesD_app]; rfl
theorem hex_at {n : Nat} {c : UInt8} (h : hexD[((n : Nat) : Int).toNat]? = some c) : c = hexD.getD n 0 := by
  rw [Int.toNat_natCast] at h
  rw [List.getD, h]; rfl
theorem qAcc_2 {s : List UInt8} {k : Nat} {x c d : UInt8} (hx : s[k]? = some x) (h : plainB x = false) (hc : hexD[((x.toNat / 16 : Nat) : Int).toNat]? = some c) (hd : hexD[((x.toNat % 16 : Nat) : Int).toNat]? = some d) :
    bytesD (qAcc s k) ++ [[D.it .u8 92]] ++ [[D.it .u8 c.toNat]] ++ [[D.it .u8 d.toNat]] = bytesD (qAcc s (k + 1)) := by
  rw [qAcc, qAcc, take_snoc hx, List.flatMap_append]
  simp only [List.flatMap_cons, List.flatMap_nil, List.append_nil, signQ, h, Bool.false_eq_true, if_false]
  rw [← hex_at hc, ← hex_at hd, ← List.cons_append, bytesD_app, List.append_assoc, List.append_assoc]; rfl
theorem quote_ok (s : List UInt8) (hs : s.length ≤ 1000000) : FnC Tryz.prog 19 [.d (.st s)] (.d (.st (quoteS s))) := by
  refine FnC.intro ti_ok Tryz.func19 rfl Tryz.ntmps19 Tryz.call19 rfl (Nat.le_of_ble_eq_true rfl) rfl ?_
  (repeat' ((conv=>whnf);first|with_reducible refine gA ?_|with_reducible refine CallI.inl ti_ok i37 rfl ?_ | with_reducible refine CallI.inl ti_ok i82 rfl ?_ | with_reducible refine CallI.ident noEsc (by with_unfolding_all exact rfl) ?_|(with_reducible first|refine gB ?_|refine gZ (fun x hx hu=>?_)|refine gY (fun x hx=>?_)|refine gE ?_|refine Both.mk ?_ ?_|refine gS (fun h=>?_) (fun h=>?_)|refine Spl.nt ?_|refine Spl.mk (fun h=>?_) (fun h=>?_))))
  refine loop_rule ti_ok (fun k : Nat => k ≤ s.length) (qA s) (fun k => s.length - k) 0 (Nat.zero_le _) ⟨⟨rfl, rfl, it_eq (by simp [bytesD]), rfl, trivial⟩, ⟨rfl, rfl, rfl, trivial⟩, rfl⟩ ?_
  intro k hk
  have hb : (bytesD s).length = s.length := by simp [bytesD]
  have hq1 : (bytesD (qAcc s k)).length = (qAcc s k).length := by simp [bytesD]
  have hq2 := qAcc_len s k
  (repeat' ((conv=>whnf);first|with_reducible refine gA ?_|with_reducible refine fun (c : UInt8) hc => ?_ | refine CallE.con ⟨_, plain_ok x, ?_⟩ | with_reducible refine LetI.eq ((x.toNat / 16 : Nat) : Int) (by with_unfolding_all exact shr4 x) ?_ | with_reducible refine LetI.eq ((x.toNat % 16 : Nat) : Int) (by with_unfolding_all exact and15 x) ?_ | with_reducible refine CallI.inl ti_ok i38 rfl ?_ | with_reducible refine CallI.inl ti_ok i37 rfl ?_ | with_reducible refine CallI.inl ti_ok i82 rfl ?_ | with_reducible refine CallI.ident noEsc (by with_unfolding_all exact rfl) ?_|(with_reducible first|refine gB ?_|refine gZ (fun x hx hu=>?_)|refine gY (fun x hx=>?_)|refine gE ?_|refine Both.mk ?_ ?_|refine gS (fun h=>?_) (fun h=>?_)|refine Spl.nt ?_|refine Spl.mk (fun h=>?_) (fun h=>?_))))
  · refine again (k + 1) (by omega) (by dsimp only; omega) (And.intro rfl (And.intro rfl (And.intro rfl (And.intro rfl trivial)))) (And.intro ?_ (And.intro rfl (And.intro rfl trivial))) rfl
    show Ob.cells 2 [.ptr 0 0, .ts 1 (bytesD (qAcc s k) ++ [[.it .u8 x.toNat]]) 4] = _
    rw [qAcc_1 hx h]
  · rename_i c' hc'
    refine again (k + 1) (by omega) (by dsimp only; omega) (And.intro rfl (And.intro rfl (And.intro rfl (And.intro rfl trivial)))) (And.intro ?_ (And.intro rfl (And.intro rfl trivial))) rfl
    show Ob.cells 2 [.ptr 0 0, .ts 1 (bytesD (qAcc s k) ++ [[.it .u8 92]] ++ [[.it .u8 c'.toNat]] ++ [[.it .u8 c.toNat]]) 4] = _
    rw [qAcc_2 hx (by simpa using h) hc' hc]
  · have hk' : k = s.length := by omega
    have e : bytesD (qAcc s k) ++ [[D.it .u8 34]] = bytesD (quoteS s) := by
      rw [quoteS, qAcc, hk', List.take_length, ← List.cons_append, bytesD_app]; rfl
    have e2 : (quoteS s).length = (qAcc s k).length + 1 := by
      have := congrArg List.length e
      simp [bytesD] at this
      omega
    refine ⟨quoteS s, ⟨e, ?_, ?_⟩, rfl⟩
    · show ((bytesD (qAcc s k) ++ [[D.it .u8 34]]).length : Int) = ((quoteS s).length : Int)
      rw [e]; simp [bytesD]
    · omega
end Go.Proofs.YtijdbjjkfkjihaaGreatDoor

/- Texts in quotes, and out of them; nodes as text, and out of it. Conditions: none. -/
namespace Go.Proofs.YtijdbjjkfkjihaaGreatDoor
open Go.Sy
set_option maxRecDepth 100000
set_option linter.all false
/-- The place of a digit. -/
def digI (c : UInt8) : Int := Lib.indexByte hexD c
def pairV (a b : UInt8) : Option UInt8 :=
  if 0 ≤ digI a ∧ 0 ≤ digI b then (if plainB (UInt8.ofNat (16 * (digI a).toNat + (digI b).toNat)) = true then none else some (UInt8.ofNat (16 * (digI a).toNat + (digI b).toNat))) else none
def unqR : List UInt8 → Option (List UInt8)
  | [] => some []
  | c :: r => if c = 92 then (match r with
      | a :: b :: r' => match pairV a b with
        | some v => (unqR r').map (v :: ·)
        | none => none
      | _ => none)
    else if plainB c = true then (unqR r).map (c :: ·) else none
theorem unqR_esc (a b : UInt8) (r : List UInt8) : unqR (92 :: a :: b :: r) = match pairV a b with
    | some v => (unqR r).map (v :: ·)
    | none => none := by rw [unqR]; simp only [if_true]
theorem unqR_c {c : UInt8} (r : List UInt8) (h : c ≠ 92) : unqR (c :: r) = if plainB c = true then (unqR r).map (c :: ·) else none := by
  cases r with
  | nil => simp [unqR, h]
  | cons a r => cases r <;> simp [unqR, h]
theorem unqR_1 : unqR [92] = none := rfl
theorem unqR_2 (a : UInt8) : unqR [92, a] = none := rfl
def unqO (s : List UInt8) : Option (List UInt8) := if s.head? = some 34 ∧ 2 ≤ s.length ∧ s.getLast? = some 34 then unqR (s.drop 1).dropLast else none
theorem dig_lt : ∀ c : UInt8, digI c < 16 ∧ -1 ≤ digI c ∧ (0 ≤ digI c → hexD.getD (digI c).toNat 0 = c) := by
  have h : ∀ n : Fin 256, digI (UInt8.ofNat n) < 16 ∧ -1 ≤ digI (UInt8.ofNat n) ∧ (0 ≤ digI (UInt8.ofNat n) → hexD.getD (digI (UInt8.ofNat n)).toNat 0 = UInt8.ofNat n) := by decide +kernel
  intro c
  have := h ⟨c.toNat, c.toNat_lt⟩
  rwa [UInt8.ofNat_toNat] at this
theorem pair_sign : ∀ c : UInt8, plainB c = false → pairV (hexD.getD (c.toNat / 16) 0) (hexD.getD (c.toNat % 16) 0) = some c := by
  have h : ∀ n : Fin 256, plainB (UInt8.ofNat n) = false → pairV (hexD.getD ((UInt8.ofNat n).toNat / 16) 0) (hexD.getD ((UInt8.ofNat n).toNat % 16) 0) = some (UInt8.ofNat n) := by decide +kernel
  intro c
  have := h ⟨c.toNat, c.toNat_lt⟩
  rwa [UInt8.ofNat_toNat] at this
theorem pairV_some {a b v : UInt8} (h : pairV a b = some v) : signQ v = [92, a, b] := by
  unfold pairV at h
  split at h
  · rename_i hd
    split at h
    · cases h
    · rename_i hp
      obtain rfl := Option.some.inj h
      have ha := dig_lt a
      have hb := dig_lt b
      have hv : (UInt8.ofNat (16 * (digI a).toNat + (digI b).toNat)).toNat = 16 * (digI a).toNat + (digI b).toNat := by
        rw [UInt8.toNat_ofNat']
        omega
      unfold signQ
      rw [if_neg hp, hv, show (16 * (digI a).toNat + (digI b).toNat) / 16 = (digI a).toNat by omega, show (16 * (digI a).toNat + (digI b).toNat) % 16 = (digI b).toNat by omega, ha.2.2 hd.1, hb.2.2 hd.2]
  · cases h
theorem plain_92 {c : UInt8} (h : plainB c = true) : c ≠ 92 := by
  rintro rfl; revert h; decide
theorem unq_sign : ∀ s : List UInt8, unqR (s.flatMap signQ) = some s
  | [] => rfl
  | c :: s => by
    rw [List.flatMap_cons]
    by_cases h : plainB c = true
    · rw [show signQ c = [c] from if_pos h, List.singleton_append, unqR_c _ (plain_92 h), if_pos h, unq_sign s]; rfl
    · rw [show signQ c = [92, hexD.getD (c.toNat / 16) 0, hexD.getD (c.toNat % 16) 0] from if_neg h]
      show unqR (92 :: _ :: _ :: s.flatMap signQ) = _
      rw [unqR_esc, pair_sign c (by simpa using h)]
      dsimp only
      rw [unq_sign s]; rfl
theorem unqR_back : ∀ (r t : List UInt8), unqR r = some t → t.flatMap signQ = r
  | [], t, h => by obtain rfl := Option.some.inj h; rfl
  | c :: r, t, h => by
    by_cases hc : c = 92
    · subst hc
      match r, h with
      | [], h => cases h
      | [a], h => cases h
      | a :: b :: r', h =>
        rw [unqR_esc] at h
        cases hp : pairV a b with
        | none => rw [hp] at h; cases h
        | some v =>
          rw [hp] at h
          dsimp only at h
          cases hu : unqR r' with
          | none => rw [hu] at h; cases h
          | some t' =>
            rw [hu] at h
            obtain rfl := Option.some.inj h
            rw [List.flatMap_cons, pairV_some hp, unqR_back r' t' hu]; rfl
    · rw [unqR_c r hc] at h
      split at h
      · rename_i hp
        cases hu : unqR r with
        | none => rw [hu] at h; cases h
        | some t' =>
          rw [hu] at h
          obtain rfl := Option.some.inj h
          rw [List.flatMap_cons, unqR_back r t' hu]
          unfold signQ
          rw [if_pos hp]; rfl
      · cases h
theorem last_app {α : Type} {l : List α} {x : α} (h : l.getLast? = some x) : l.dropLast ++ [x] = l := by
  have hne : l ≠ [] := by rintro rfl; cases h
  rw [List.getLast?_eq_some_getLast hne] at h
  rw [← Option.some.inj h]
  exact List.dropLast_concat_getLast hne
theorem unq_quote (s : List UInt8) : unqO (quoteS s) = some s := by
  have e : ((quoteS s).drop 1).dropLast = s.flatMap signQ := by
    unfold quoteS
    rw [List.drop_succ_cons, List.drop_zero, List.dropLast_concat]
  unfold unqO
  rw [if_pos, e, unq_sign]
  refine ⟨rfl, by simp [quoteS], ?_⟩
  unfold quoteS
  rw [← List.cons_append, List.getLast?_concat]
theorem quote_unq {s t : List UInt8} (h : unqO s = some t) : quoteS t = s := by
  unfold unqO at h
  split at h
  · rename_i hs
    obtain ⟨h1, h2, h3⟩ := hs
    have := unqR_back _ _ h
    unfold quoteS
    rw [this]
    match s with
    | [] => cases h1
    | c :: r =>
      obtain rfl := Option.some.inj h1
      have hr : r ≠ [] := by rintro rfl; simp at h2
      rw [List.drop_succ_cons, List.drop_zero]
      have h3' : r.getLast? = some 34 := by rwa [List.getLast?_cons_of_ne_nil hr] at h3
      rw [last_app h3']
  · cases h
/-- A text, parted where a byte stands first. -/
def cutC (c : UInt8) : List UInt8 → List UInt8 × Option (List UInt8)
  | [] => ([], none)
  | b :: t => if b = c then ([], some t) else (b :: (cutC c t).1, (cutC c t).2)
theorem cutC_some {c : UInt8} : ∀ {s a b : List UInt8}, cutC c s = (a, some b) → s = a ++ c :: b
  | [], a, b, h => by cases h
  | x :: t, a, b, h => by
    unfold cutC at h
    split at h
    · rename_i hx
      subst hx
      cases h; rfl
    · have h1 : x :: (cutC c t).1 = a := congrArg Prod.fst h
      have h2 : (cutC c t).2 = some b := congrArg Prod.snd h
      have := cutC_some (s := t) (a := (cutC c t).1) (b := b) (by rw [← h2])
      rw [← h1]
      show x :: t = x :: ((cutC c t).1 ++ c :: b)
      rw [← this]
theorem cutC_none {c : UInt8} : ∀ {s a : List UInt8}, cutC c s = (a, none) → s = a
  | [], a, h => by cases h; rfl
  | x :: t, a, h => by
    unfold cutC at h
    split at h
    · cases h
    · have h1 : x :: (cutC c t).1 = a := congrArg Prod.fst h
      have h2 : (cutC c t).2 = none := congrArg Prod.snd h
      rw [← h1, ← cutC_none (s := t) (a := (cutC c t).1) (by rw [← h2])]
theorem cutC_app {c : UInt8} : ∀ {a : List UInt8} (b : List UInt8), (∀ x ∈ a, x ≠ c) → cutC c (a ++ c :: b) = (a, some b)
  | [], b, _ => by simp [cutC]
  | x :: a, b, h => by
    rw [List.cons_append, cutC, if_neg (h x List.mem_cons_self), cutC_app b fun y hy => h y (List.mem_cons_of_mem _ hy)]
theorem cutC_no {c : UInt8} : ∀ {a : List UInt8}, (∀ x ∈ a, x ≠ c) → cutC c a = (a, none)
  | [], _ => rfl
  | x :: a, h => by
    rw [cutC, if_neg (h x List.mem_cons_self), cutC_no fun y hy => h y (List.mem_cons_of_mem _ hy)]
theorem cutC_idx {c : UInt8} : ∀ (s : List UInt8), (Lib.indexByte s c = -1 ∧ cutC c s = (s, none)) ∨ (0 ≤ Lib.indexByte s c ∧ Lib.indexByte s c < s.length ∧ cutC c s = (s.take (Lib.indexByte s c).toNat, some (s.drop ((Lib.indexByte s c).toNat + 1))))
  | [] => .inl ⟨rfl, rfl⟩
  | b :: t => by
    by_cases hb : b = c
    · subst hb
      have e : Lib.indexByte (b :: t) b = 0 := by simp [Lib.indexByte]
      rw [e]
      exact .inr ⟨by omega, by simp, by simp [cutC]⟩
    · have e : Lib.indexByte (b :: t) c = if Lib.indexByte t c == -1 then -1 else Lib.indexByte t c + 1 := by simp [Lib.indexByte, hb]
      rcases cutC_idx t with ⟨h1, h2⟩ | ⟨h1, h2, h3⟩
      · refine .inl ⟨by rw [e, h1]; rfl, ?_⟩
        rw [cutC, if_neg hb, h2]
      · have hne : (Lib.indexByte t c == -1) = false := by simp; omega
        rw [hne] at e
        simp only [Bool.false_eq_true, if_false] at e
        rw [e]
        refine .inr ⟨by omega, by simp; omega, ?_⟩
        have hn : (Lib.indexByte t c + 1).toNat = (Lib.indexByte t c).toNat + 1 := by omega
        rw [hn, cutC, if_neg hb, h3, List.take_succ_cons, List.drop_succ_cons]
def vline (n : Nod) : List UInt8 := if n.d = true then n.p ++ [47, 10] else n.p ++ 32 :: (quoteS n.x ++ [10])
def showN (l : List Nod) : List UInt8 := l.flatMap vline
/-- The node of a line. -/
def nodeO (line : List UInt8) : Option Nod :=
  match cutC 32 line with
  | (p, some q) => match unqO q with
    | some t => if mayB ⟨p, false, t⟩ = true then some ⟨p, false, t⟩ else none
    | none => none
  | (p, none) => if p.getLast? = some 47 ∧ mayB ⟨p.dropLast, true, []⟩ = true then some ⟨p.dropLast, true, []⟩ else none
def readO : Nat → List UInt8 → Option (List Nod)
  | 0, _ => none
  | n + 1, s => if s = [] then some [] else match cutC 10 s with
    | (line, some rest) => match nodeO line with
      | some x => (readO n rest).map (x :: ·)
      | none => none
    | (_, none) => none
def readN (s : List UInt8) : Option (List Nod) := readO (s.length + 1) s
theorem readO_eq : ∀ (n m : Nat) (s : List UInt8), s.length < n → s.length < m → readO n s = readO m s
  | 0, _, _, h, _ => by omega
  | _, 0, _, _, h => by omega
  | n + 1, m + 1, s, h1, h2 => by
    unfold readO
    by_cases hs : s = []
    · rw [if_pos hs, if_pos hs]
    · rw [if_neg hs, if_neg hs]
      rcases hc : cutC 10 s with ⟨line, rest⟩
      cases rest with
      | none => rfl
      | some rest =>
        dsimp only
        have := congrArg List.length (cutC_some hc)
        rw [List.length_append, List.length_cons] at this
        rw [readO_eq n m rest (by omega) (by omega)]
theorem readN_nil : readN [] = some [] := rfl
theorem readN_none {s line : List UInt8} (hs : s ≠ []) (hc : cutC 10 s = (line, none)) : readN s = none := by
  unfold readN readO
  rw [if_neg hs, hc]
theorem readN_some {s line rest : List UInt8} (hc : cutC 10 s = (line, some rest)) : readN s = match nodeO line with
    | some x => (readN rest).map (x :: ·)
    | none => none := by
  have hs : s ≠ [] := by rintro rfl; cases hc
  have := congrArg List.length (cutC_some hc)
  rw [List.length_append, List.length_cons] at this
  unfold readN
  rw [readO, if_neg hs, hc]
  dsimp only
  rw [readO_eq s.length (rest.length + 1) rest (by omega) (by omega)]
theorem nodeO_line {line : List UInt8} {x : Nod} (h : nodeO line = some x) : mayB x = true ∧ vline x = line ++ [10] := by
  unfold nodeO at h
  rcases hc : cutC 32 line with ⟨p, q⟩
  rw [hc] at h
  cases q with
  | none =>
    dsimp only at h
    split at h
    · rename_i hp
      obtain rfl := Option.some.inj h
      refine ⟨hp.2, ?_⟩
      have := last_app hp.1
      rw [cutC_none hc]
      show p.dropLast ++ [47, 10] = p ++ [10]
      conv => rhs; rw [← this]
      simp
    · cases h
  | some q =>
    dsimp only at h
    cases hu : unqO q with
    | none => rw [hu] at h; cases h
    | some t =>
      rw [hu] at h
      dsimp only at h
      split at h
      · rename_i hm
        obtain rfl := Option.some.inj h
        refine ⟨hm, ?_⟩
        rw [cutC_some hc]
        show p ++ 32 :: (quoteS t ++ [10]) = _
        rw [quote_unq hu]; simp
      · cases h
theorem read_show : ∀ (n : Nat) (s : List UInt8) (l : List Nod), s.length ≤ n → readN s = some l → l.all mayB = true ∧ showN l = s
  | n, [], l, _, h => by obtain rfl := Option.some.inj (readN_nil.symm.trans h); exact ⟨rfl, rfl⟩
  | 0, _ :: _, l, hn, h => by simp at hn
  | n + 1, b :: s, l, hn, h => by
    rcases hc : cutC 10 (b :: s) with ⟨line, rest⟩
    cases rest with
    | none => rw [readN_none (by simp) hc] at h; cases h
    | some rest =>
      rw [readN_some hc] at h
      have e := cutC_some hc
      have hl := congrArg List.length e
      simp only [List.length_append, List.length_cons] at hl hn
      cases hx : nodeO line with
      | none => rw [hx] at h; cases h
      | some x =>
        rw [hx] at h
        dsimp only at h
        cases hr : readN rest with
        | none => rw [hr] at h; cases h
        | some l' =>
          rw [hr] at h
          obtain rfl := Option.some.inj h
          have h1 := nodeO_line hx
          have h2 := read_show n rest l' (by omega) hr
          refine ⟨by rw [List.all_cons, h1.1, h2.1]; rfl, ?_⟩
          show vline x ++ showN l' = _
          rw [h1.2, h2.2, e]; simp
theorem words_mem {c : UInt8} : ∀ (s : List UInt8) (x : UInt8), x ∈ s → x = c ∨ ∃ w ∈ wordsC c s, x ∈ w
  | b :: t, x, h => by
    unfold wordsC
    by_cases hb : b = c
    · rw [if_pos hb]
      rcases List.mem_cons.1 h with rfl | h
      · exact .inl hb
      · rcases words_mem t x h with h | ⟨w, hw, h⟩
        · exact .inl h
        · exact .inr ⟨w, List.mem_cons_of_mem _ hw, h⟩
    · rw [if_neg hb]
      have ih := fun h => words_mem (c := c) t x h
      cases hw : wordsC c t with
      | nil => exact absurd hw (wordsC_ne c t)
      | cons w r =>
        rw [hw] at ih
        dsimp only
        rcases List.mem_cons.1 h with rfl | h
        · exact .inr ⟨_, List.mem_cons_self, List.mem_cons_self⟩
        · rcases ih h with h | ⟨v, hv, h⟩
          · exact .inl h
          · rcases List.mem_cons.1 hv with rfl | hv
            · exact .inr ⟨_, List.mem_cons_self, List.mem_cons_of_mem _ h⟩
            · exact .inr ⟨v, List.mem_cons_of_mem _ hv, h⟩
theorem path_chars {p : List UInt8} (h : (splitP p).2 = 0) : ∀ x ∈ p, 33 ≤ x.toNat := by
  intro x hx
  unfold splitP at h
  split at h
  · rename_i hp
    subst hp
    obtain rfl := List.mem_singleton.1 hx
    decide
  · split at h
    · cases h
    · rename_i b r _
      split at h
      · rename_i hb
        split at h
        · rename_i hw
          rcases List.mem_cons.1 hx with rfl | hx
          · rw [hb]; decide
          · rcases words_mem (c := 47) r x hx with h | ⟨w, hw', h⟩
            · rw [h]; decide
            · have := List.all_eq_true.1 hw.2 w hw'
              unfold nameB at this
              rw [Bool.and_eq_true] at this
              have := List.all_eq_true.1 this.2 x h
              unfold signB at this
              have := of_decide_eq_true this
              omega
        · cases h
      · cases h
theorem sign_chars : ∀ c : UInt8, (signQ c).all (fun x => decide (32 ≤ x.toNat)) = true := by
  have h : ∀ n : Fin 256, (signQ (UInt8.ofNat n)).all (fun x => decide (32 ≤ x.toNat)) = true := by decide +kernel
  intro c
  have := h ⟨c.toNat, c.toNat_lt⟩
  rwa [UInt8.ofNat_toNat] at this
theorem quote_chars {s : List UInt8} : ∀ x ∈ quoteS s, 32 ≤ x.toNat := by
  intro x hx
  unfold quoteS at hx
  rcases List.mem_cons.1 hx with rfl | hx
  · decide
  · rcases List.mem_append.1 hx with hx | hx
    · obtain ⟨c, _, hx⟩ := List.mem_flatMap.1 hx
      exact of_decide_eq_true (List.all_eq_true.1 (sign_chars c) x hx)
    · obtain rfl := List.mem_singleton.1 hx
      decide
theorem ne_of {x c : UInt8} {n : Nat} (h : n ≤ x.toNat) (hc : c.toNat < n) : x ≠ c := by rintro rfl; omega
theorem mayB_p {x : Nod} (h : mayB x = true) : (splitP x.p).2 = 0 ∧ (x.d = true → x.x = []) := by
  have := of_decide_eq_true h
  exact ⟨this.1, this.2.2.2⟩
theorem vline_cut {x : Nod} (h : mayB x = true) (rest : List UInt8) : ∃ line, vline x = line ++ [10] ∧ cutC 10 (vline x ++ rest) = (line, some rest) ∧ nodeO line = some x := by
  have hp := mayB_p h
  have hc := path_chars hp.1
  obtain ⟨p, d, t⟩ := x
  cases d with
  | true =>
    obtain rfl : t = [] := hp.2 rfl
    refine ⟨p ++ [47], by simp [vline], ?_, ?_⟩
    · have : vline ⟨p, true, []⟩ ++ rest = (p ++ [47]) ++ 10 :: rest := by simp [vline]
      rw [this]
      refine cutC_app _ fun x hx => ?_
      rcases List.mem_append.1 hx with hx | hx
      · exact ne_of (hc x hx) (by decide)
      · obtain rfl := List.mem_singleton.1 hx; decide
    · unfold nodeO
      rw [cutC_no fun x hx => ?_]
      · dsimp only
        rw [List.dropLast_concat, List.getLast?_concat, if_pos ⟨rfl, h⟩]
      · rcases List.mem_append.1 hx with hx | hx
        · exact ne_of (hc x hx) (by decide)
        · obtain rfl := List.mem_singleton.1 hx; decide
  | false =>
    refine ⟨p ++ 32 :: quoteS t, by simp [vline], ?_, ?_⟩
    · have : vline ⟨p, false, t⟩ ++ rest = (p ++ 32 :: quoteS t) ++ 10 :: rest := by simp [vline]
      rw [this]
      refine cutC_app _ fun x hx => ?_
      rcases List.mem_append.1 hx with hx | hx
      · exact ne_of (hc x hx) (by decide)
      · rcases List.mem_cons.1 hx with rfl | hx
        · decide
        · exact ne_of (quote_chars x hx) (by decide)
    · unfold nodeO
      rw [cutC_app _ fun x hx => ne_of (hc x hx) (by decide)]
      dsimp only
      rw [unq_quote]
      dsimp only
      rw [if_pos h]
theorem show_read : ∀ l : List Nod, l.all mayB = true → readN (showN l) = some l
  | [], _ => rfl
  | x :: l, h => by
    rw [List.all_cons, Bool.and_eq_true] at h
    obtain ⟨line, _, h1, h2⟩ := vline_cut h.1 (showN l)
    show readN (vline x ++ showN l) = _
    rw [readN_some h1, h2, show_read l h.2]; rfl
end Go.Proofs.YtijdbjjkfkjihaaGreatDoor
