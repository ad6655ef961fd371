/- Contracts of the functions that the law reaches, and the law. Conditions: none. -/
import Derived.Test.YtijdbjjkfkjihaaGreatDoorKA
import Derived.Test.YtijdbjjkfkjihaaGreatDoorSC
set_option linter.all false
/- Entries: may they be? Conditions: none. -/
namespace Go.Proofs.YtijdbjjkfkjihaaGreatDoor
open Go.Sy
set_option maxRecDepth 100000
set_option linter.all false
structure Ent where
  u : Bool
  p : Int
  n : List UInt8
  t : Int
deriving DecidableEq
def encE (x : Ent) : List D := [.bl x.u, .it .i64 x.p, .st x.n, .it .i64 x.t]
def RE (x : Ent) : Prop := x.u = false ∧ x.p = 0 ∧ x.n = [] ∧ x.t = 0 ∨ x.u = true ∧ 0 ≤ x.p ∧ x.p < 16 ∧ 1 ≤ x.t ∧ x.t < 16 ∧ nameB x.n = true
instance (x : Ent) : Decidable (RE x) := by unfold RE; infer_instance
theorem e_ff {p : Prop} [Decidable p] (h : ¬ p) : AV.d (.bl false) = AV.d (.bl (decide p)) := by rw [decide_eq_false h]
theorem e_of {e : Bool} {p : Prop} [Decidable p] (h : e = true ↔ p) : AV.d (.bl e) = AV.d (.bl (decide p)) := by
  have : e = decide p := by rw [Bool.eq_iff_iff, h, decide_eq_true_eq]
  rw [this]
theorem eqE4 (a a' : Bool) (b b' : Int) (c c' : List UInt8) (d d' : Int) : eqDs [.bl a, .it .i64 b, .st c, .it .i64 d] [.bl a', .it .i64 b', .st c', .it .i64 d'] = decide (a = a' ∧ b = b' ∧ c = c' ∧ d = d') := by
  rw [Bool.eq_iff_iff]; simp [eqDs, eqD]
theorem e_tr {a b : Bool} {v : AV} (h : a = b) (h2 : AV.d (.bl b) = v) : AV.d (.bl a) = v := by rw [h, h2]
theorem re_ok (x : Ent) : FnC Tryz.prog 168 [.dg 4 (encE x)] (.d (.bl (decide (RE x)))) := by
  refine FnC.intro ti_ok Tryz.func168 rfl Tryz.ntmps168 Tryz.call168 rfl (Nat.le_of_ble_eq_true rfl) rfl ?_
  have hn := name_ok x.n
  cases hu : x.u with
  | false =>
    have hu' : (!x.u) = true := by rw [hu]; rfl
    (repeat' ((conv=>whnf);first|with_reducible refine gA ?_|(with_reducible first|refine gB ?_|refine gZ (fun x hx hu=>?_)|refine gY (fun x hx=>?_)|refine gE ?_|refine Both.mk ?_ ?_|refine gS (fun h=>?_) (fun h=>?_)|refine Spl.nt ?_|refine Spl.mk (fun h=>?_) (fun h=>?_))))
    exact e_tr (eqE4 _ _ _ _ _ _ _ _) (e_of (by simp [RE, hu]))
  | true =>
    have hu' : (!x.u) = false := by rw [hu]; rfl
    (repeat' ((conv=>whnf);first|with_reducible refine gA ?_|(refine CallE.con ⟨_, hn, ?_⟩) | with_reducible refine CallI.inl ti_ok i189 rfl ?_|(with_reducible first|refine gB ?_|refine gZ (fun x hx hu=>?_)|refine gY (fun x hx=>?_)|refine gE ?_|refine Both.mk ?_ ?_|refine gS (fun h=>?_) (fun h=>?_)|refine Spl.nt ?_|refine Spl.mk (fun h=>?_) (fun h=>?_))))
    all_goals first
      | (refine e_ff ?_; simp only [RE, hu]; simp; omega)
      | exact e_of ⟨fun hb => .inr ⟨hu, by omega, by omega, by omega, by omega, hb⟩, fun h => h.elim (fun h => by rw [hu] at h; cases h.1) fun h => h.2.2.2.2.2⟩
theorem refRE_ok (x : Ent) : FnC Tryz.prog 171 [.dg 4 (encE x)] (.d (.bl (decide (RE x)))) := by
  refine FnC.intro ti_ok Tryz.func171 rfl Tryz.ntmps171 Tryz.call171 rfl (Nat.le_of_ble_eq_true rfl) rfl ?_
  have hn := refName_ok x.n
  cases hu : x.u with
  | false =>
    have hu' : (!x.u) = true := by rw [hu]; rfl
    (repeat' ((conv=>whnf);first|with_reducible refine gA ?_|(with_reducible first|refine gB ?_|refine gZ (fun x hx hu=>?_)|refine gY (fun x hx=>?_)|refine gE ?_|refine Both.mk ?_ ?_|refine gS (fun h=>?_) (fun h=>?_)|refine Spl.nt ?_|refine Spl.mk (fun h=>?_) (fun h=>?_))))
    exact e_tr (eqE4 _ _ _ _ _ _ _ _) (e_of (by simp [RE, hu]))
  | true =>
    have hu' : (!x.u) = false := by rw [hu]; rfl
    (repeat' ((conv=>whnf);first|with_reducible refine gA ?_|(refine CallE.con ⟨_, hn, ?_⟩)|(with_reducible first|refine gB ?_|refine gZ (fun x hx hu=>?_)|refine gY (fun x hx=>?_)|refine gE ?_|refine Both.mk ?_ ?_|refine gS (fun h=>?_) (fun h=>?_)|refine Spl.nt ?_|refine Spl.mk (fun h=>?_) (fun h=>?_))))
    all_goals first
      | (refine e_ff ?_; simp only [RE, hu]; simp; omega)
      | exact e_of ⟨fun hb => .inr ⟨hu, by omega, by omega, by omega, by omega, hb⟩, fun h => h.elim (fun h => by rw [hu] at h; cases h.1) fun h => h.2.2.2.2.2⟩
end Go.Proofs.YtijdbjjkfkjihaaGreatDoor

/- Entries as sectors. Conditions: none. -/
namespace Go.Proofs.YtijdbjjkfkjihaaGreatDoor
open Go.Sy
set_option maxRecDepth 100000
set_option linter.all false
def by8e (n : Int) : UInt8 := UInt8.ofNat n.toNat
theorem by8e_ok {n : Int} (h : 0 ≤ n ∧ n < 256) : ((by8e n).toNat : Int) = n := by
  unfold by8e
  rw [UInt8.toNat_ofNat']
  omega
/-- The sector of an entry. -/
def entS (x : Ent) : List UInt8 := if x.u = true then [1, by8e x.p, by8e x.t, by8e x.n.length, 0, 0, 0, 0, 0, 0, 0, 0, 0, 0, 0, 0] ++ x.n ++ List.replicate (16 - x.n.length) 0 else zeroS
def c16 (x : Ent) : List D := [.it .u8 1, .it .u8 x.p, .it .u8 x.t, .it .u8 (x.n.length : Nat), .it .u8 0, .it .u8 0, .it .u8 0, .it .u8 0, .it .u8 0, .it .u8 0, .it .u8 0, .it .u8 0, .it .u8 0, .it .u8 0, .it .u8 0, .it .u8 0]
theorem st_all (l : List AV) : l = [] ++ l ++ [] := by simp
theorem bytes_flat : ∀ (n : List UInt8), (bytesD n).flatten = encS n
  | [] => rfl
  | b :: n => by show [D.it .u8 b.toNat] ++ (bytesD n).flatten = D.it .u8 b.toNat :: encS n; rw [bytes_flat n]; rfl
theorem encS_rep (k : Nat) : encS (List.replicate k 0) = List.replicate k (.it .u8 0) := by unfold encS; rw [List.map_replicate]; rfl
theorem entS_len (x : Ent) (hx : RE x) : (entS x).length = 32 := by
  unfold entS
  unfold RE at hx
  split
  · rename_i hu
    rcases hx with h | ⟨_, _, _, _, _, hn⟩
    · rw [hu] at h; cases h.1
    · have : x.n.length ≤ 8 := by
        unfold nameB at hn
        simp only [Bool.and_eq_true, decide_eq_true_eq] at hn; omega
      simp; omega
  · rfl
theorem entS_enc {x : Ent} (hu : x.u = true) (hp : 0 ≤ x.p ∧ x.p < 16) (ht : 0 ≤ x.t ∧ x.t < 16) (hn : x.n.length ≤ 16) :
    encS (entS x) = c16 x ++ encS x.n ++ List.replicate (16 - x.n.length) (.it .u8 0) := by
  unfold entS
  rw [if_pos hu]
  show encS (_ ++ x.n ++ _) = _
  unfold encS
  rw [List.map_append, List.map_append]
  have e2 : List.map (fun b : UInt8 => D.it .u8 b.toNat) [1, by8e x.p, by8e x.t, by8e x.n.length, 0, 0, 0, 0, 0, 0, 0, 0, 0, 0, 0, 0] = c16 x := by
    show [_, D.it .u8 (by8e x.p).toNat, D.it .u8 (by8e x.t).toNat, D.it .u8 (by8e x.n.length).toNat, _, _, _, _, _, _, _, _, _, _, _, _] = _
    rw [by8e_ok (by omega), by8e_ok (by omega), by8e_ok (by omega)]; rfl
  rw [e2]
  have e3 := encS_rep (16 - x.n.length)
  unfold encS at e3
  rw [e3]
theorem entS_cells {x : Ent} (hu : x.u = true) (hp : 0 ≤ x.p ∧ x.p < 16) (ht : 0 ≤ x.t ∧ x.t < 16) (hn : x.n.length ≤ 16) :
    (encS (entS x)).map AV.d = ((c16 x ++ List.replicate 16 (D.it .u8 0)).map AV.d).take 16 ++ (bytesD x.n).flatten.map AV.d ++ ((c16 x ++ List.replicate 16 (D.it .u8 0)).map AV.d).drop (16 + x.n.length * 1) := by
  have e1 := entS_enc hu hp ht hn
  have hl : (c16 x).length = 16 := rfl
  rw [e1, bytes_flat, List.map_append, List.map_append, List.map_append]
  have t1 : ((c16 x).map AV.d ++ (List.replicate 16 (D.it .u8 0)).map AV.d).take 16 = (c16 x).map AV.d := List.take_left' (by simp [hl])
  have t2 : ((c16 x).map AV.d ++ (List.replicate 16 (D.it .u8 0)).map AV.d).drop (16 + x.n.length * 1) = (List.replicate (16 - x.n.length) (D.it .u8 0)).map AV.d := by
    rw [List.drop_append, List.drop_eq_nil_of_le (by simp [hl]), List.nil_append, List.length_map, hl, List.map_replicate, List.map_replicate, List.drop_replicate]
    congr 1; omega
  rw [t1, t2]
theorem bytesD_l (n : List UInt8) : (bytesD n).length = n.length := by unfold bytesD; exact List.length_map ..
theorem entS_cells2 {x : Ent} {i j : Nat} (hi : i = 16) (hj : j = 16 + x.n.length * 1) (hu : x.u = true) (hp : 0 ≤ x.p ∧ x.p < 16) (ht : 0 ≤ x.t ∧ x.t < 16) (hn : x.n.length ≤ 16) :
    (encS (entS x)).map AV.d = ((c16 x ++ List.replicate 16 (D.it .u8 0)).map AV.d).take i ++ (bytesD x.n).flatten.map AV.d ++ ((c16 x ++ List.replicate 16 (D.it .u8 0)).map AV.d).drop j := by
  subst hi hj; exact entS_cells hu hp ht hn
def entR (x : Ent) : AV := if RE x then .tup [.dg 32 (encS (entS x)), .d (.bl true)] else .tup [.dg 32 (encS zeroS), .d (.bl false)]
set_option maxHeartbeats 4000000 in
theorem ent_ok (x : Ent) : FnC Tryz.prog 125 [.dg 4 (encE x)] (entR x) := by
  have hr := re_ok x
  unfold entR
  by_cases h : RE x
  · have hl := entS_len x h
    rw [if_pos h]
    rw [decide_eq_true h] at hr
    cases hu : x.u with
    | true =>
      obtain ⟨hp, ht, hn⟩ : (0 ≤ x.p ∧ x.p < 16) ∧ (0 ≤ x.t ∧ x.t < 16) ∧ x.n.length ≤ 8 := by
        unfold RE at h
        rcases h with h | ⟨_, h1, h2, h3, h4, hn⟩
        · rw [hu] at h; cases h.1
        · unfold nameB at hn
          simp only [Bool.and_eq_true, decide_eq_true_eq] at hn; omega
      refine FnC.intro ti_ok Tryz.func125 rfl Tryz.ntmps125 Tryz.call125 rfl (Nat.le_of_ble_eq_true rfl) rfl ?_
      (repeat' ((conv=>whnf);first|with_reducible refine gA ?_|((with_reducible refine callE_id ?_); (refine CallE.con ⟨_, hr, ?_⟩)) | ((with_reducible refine letC_id ?_); first | refine LetC.mk ((c16 x ++ List.replicate 16 (D.it .u8 0)).map AV.d) rfl ?_ | refine LetC.mk ((encS (entS x)).map AV.d) (entS_cells2 rfl (by show 0 + 16 * 1 + (bytesD x.n).length * 1 = _; rw [bytesD_l]) hu (by omega) (by omega) (by omega)) ?_ | refine LetC.mk ((encS (entS x)).map AV.d) (st_all _) ?_ | refine LetC.now ?_) | refine AtA.eq (ld_sec rfl rfl hl) ?_ | with_reducible refine AtA.mk' ?_|(with_reducible first|refine gB ?_|refine gZ (fun x hx hu=>?_)|refine gY (fun x hx=>?_)|refine gE ?_|refine Both.mk ?_ ?_|refine gS (fun h=>?_) (fun h=>?_)|refine Spl.nt ?_|refine Spl.mk (fun h=>?_) (fun h=>?_))))
      conv => whnf
      conv in (ldA _ _ _) => tactic => exact ld_sec rfl rfl hl
      rfl
    | false =>
      have he : entS x = zeroS := by unfold entS; rw [hu]; rfl
      rw [he]
      refine FnC.intro ti_ok Tryz.func125 rfl Tryz.ntmps125 Tryz.call125 rfl (Nat.le_of_ble_eq_true rfl) rfl ?_
      (repeat' ((conv=>whnf);first|with_reducible refine gA ?_|((with_reducible refine callE_id ?_); (refine CallE.con ⟨_, hr, ?_⟩)) | with_reducible refine AtA.mk' ?_|(with_reducible first|refine gB ?_|refine gZ (fun x hx hu=>?_)|refine gY (fun x hx=>?_)|refine gE ?_|refine Both.mk ?_ ?_|refine gS (fun h=>?_) (fun h=>?_)|refine Spl.nt ?_|refine Spl.mk (fun h=>?_) (fun h=>?_))))
      all_goals rfl
  · rw [if_neg h]
    rw [decide_eq_false h] at hr
    refine FnC.intro ti_ok Tryz.func125 rfl Tryz.ntmps125 Tryz.call125 rfl (Nat.le_of_ble_eq_true rfl) rfl ?_
    (repeat' ((conv=>whnf);first|with_reducible refine gA ?_|((with_reducible refine callE_id ?_); (refine CallE.con ⟨_, hr, ?_⟩)) | with_reducible refine AtA.mk' ?_|(with_reducible first|refine gB ?_|refine gZ (fun x hx hu=>?_)|refine gY (fun x hx=>?_)|refine gE ?_|refine Both.mk ?_ ?_|refine gS (fun h=>?_) (fun h=>?_)|refine Spl.nt ?_|refine Spl.mk (fun h=>?_) (fun h=>?_))))
    all_goals rfl
end Go.Proofs.YtijdbjjkfkjihaaGreatDoor

/- Entries as sectors, by the document's answer. Conditions: none. -/
namespace Go.Proofs.YtijdbjjkfkjihaaGreatDoor
open Go.Sy
set_option maxRecDepth 100000
set_option linter.all false
def eC (x : Ent) (i : Nat) : List D := c16 x ++ encS (x.n.take i) ++ List.replicate (16 - i) (.it .u8 0)
theorem cells32 {a b : List AV} (h : a = b) : Ob.cells 32 a = Ob.cells 32 b := by rw [h]
theorem eC_step {x : Ent} {i j : Nat} {c : UInt8} (hi : i < x.n.length) (hn : x.n.length ≤ 8) (hc : x.n[i]? = some c) (hj : j = 16 + i) :
    ((eC x i).map AV.d).take j ++ [AV.d (.it .u8 c.toNat)] ++ ((eC x i).map AV.d).drop (j+1) = (eC x (i+1)).map AV.d := by
  subst hj
  have hl : (c16 x).length = 16 := rfl
  have hL : ((c16 x).map AV.d ++ (encS (x.n.take i)).map AV.d).length = 16 + i := by simp [encS_len, hl]; omega
  unfold eC
  rw [List.map_append, List.map_append, List.map_append, List.map_append]
  have t1 := List.take_left' (l₁ := (c16 x).map AV.d ++ (encS (x.n.take i)).map AV.d) (l₂ := (List.replicate (16 - i) (D.it .u8 0)).map AV.d) hL
  have t2 : ((c16 x).map AV.d ++ (encS (x.n.take i)).map AV.d ++ (List.replicate (16 - i) (D.it .u8 0)).map AV.d).drop (16 + i + 1) = (List.replicate (16 - (i+1)) (D.it .u8 0)).map AV.d := by
    rw [List.drop_append, List.drop_eq_nil_of_le (by omega), List.nil_append, hL, List.map_replicate, List.map_replicate, List.drop_replicate]
    congr 1; omega
  rw [t1, t2]
  have t3 : encS (x.n.take (i+1)) = encS (x.n.take i) ++ [D.it .u8 c.toNat] := by
    rw [List.take_add_one, hc]; unfold encS; rw [List.map_append]; rfl
  rw [t3, List.map_append]
  simp only [List.append_assoc]; rfl
set_option maxHeartbeats 4000000 in
theorem refEnt_ok (x : Ent) : FnC Tryz.prog 128 [.dg 4 (encE x)] (entR x) := by
  have hr := refRE_ok x
  unfold entR
  by_cases h : RE x
  · have hl := entS_len x h
    rw [if_pos h]
    rw [decide_eq_true h] at hr
    cases hu : x.u with
    | true =>
      have hu' : (!x.u) = false := by rw [hu]; rfl
      obtain ⟨hp, ht, hn⟩ : (0 ≤ x.p ∧ x.p < 16) ∧ (0 ≤ x.t ∧ x.t < 16) ∧ x.n.length ≤ 8 := by
        unfold RE at h
        rcases h with h | ⟨_, h1, h2, h3, h4, hn⟩
        · rw [hu] at h; cases h.1
        · unfold nameB at hn
          simp only [Bool.and_eq_true, decide_eq_true_eq] at hn; omega
      refine FnC.intro ti_ok Tryz.func128 rfl Tryz.ntmps128 Tryz.call128 rfl (Nat.le_of_ble_eq_true rfl) rfl ?_
      (repeat' ((conv=>whnf);first|with_reducible refine gA ?_|((with_reducible refine callE_id ?_); (refine CallE.con ⟨_, hr, ?_⟩)) | ((with_reducible refine letC_id ?_); first | refine LetC.mk ((c16 x ++ List.replicate 16 (D.it .u8 0)).map AV.d) rfl ?_ | refine LetC.now ?_) | with_reducible refine AtA.mk' ?_|(with_reducible first|refine gB ?_|refine gZ (fun x hx hu=>?_)|refine gY (fun x hx=>?_)|refine gE ?_|refine Both.mk ?_ ?_|refine gS (fun h=>?_) (fun h=>?_)|refine Spl.nt ?_|refine Spl.mk (fun h=>?_) (fun h=>?_))))
      refine loop_rule ti_ok (fun i : Nat => i ≤ x.n.length) (fun i : Nat => ⟨[(1,.ptr 0 0),(2,.ptr 1 0),(3,.d (.bl false)),(4,.ptr 2 0),(5,.d (.it .i64 (i : Nat)))], [(0,.cells 4 ((encE x).map .d)),(1,.cells 32 ((encS zeroS).map .d)),(2,.cells 32 ((eC x i).map .d))], 3⟩) (fun i => x.n.length - i) 0 (Nat.zero_le _) ⟨And.intro rfl (And.intro rfl (And.intro rfl (And.intro rfl (And.intro rfl trivial)))), And.intro rfl (And.intro rfl (And.intro rfl trivial)), rfl⟩ ?_
      intro i hi
      rcases Nat.lt_or_ge i x.n.length with hil | hil
      · obtain ⟨c, hc⟩ := lt_get hil
        (repeat' ((conv=>whnf);first|with_reducible refine gA ?_|with_reducible refine at_known hc ?_ | with_reducible refine AtA.mk' ?_|(with_reducible first|refine gB ?_|refine gZ (fun x hx hu=>?_)|refine gY (fun x hx=>?_)|refine gE ?_|refine Both.mk ?_ ?_|refine gS (fun h=>?_) (fun h=>?_)|refine Spl.nt ?_|refine Spl.mk (fun h=>?_) (fun h=>?_))))
        refine again (i+1) (by omega) (by dsimp only; omega) (And.intro rfl (And.intro rfl (And.intro rfl (And.intro rfl (And.intro rfl trivial))))) (And.intro rfl (And.intro rfl (And.intro (cells32 (eC_step hil hn hc ?_)) trivial))) (by simp only [S.ok, List.all_cons, List.all_nil, Ob.lt, all_d]; rfl)
        show 0 + ((16:Int)+(i:Nat)).toNat * 1 = 16 + i; omega
      · have hi' : i = x.n.length := by omega
        have hfin : eC x i = encS (entS x) := by
          unfold eC; rw [entS_enc hu hp ht (by omega), hi', List.take_length]
        rw [hfin]
        (repeat' ((conv=>whnf);first|with_reducible refine gA ?_|((with_reducible refine letC_id ?_); first | refine LetC.mk ((encS (entS x)).map AV.d) (st_all _) ?_) | refine AtA.eq (ld_sec rfl rfl hl) ?_ | with_reducible refine AtA.mk' ?_|(with_reducible first|refine gB ?_|refine gZ (fun x hx hu=>?_)|refine gY (fun x hx=>?_)|refine gE ?_|refine Both.mk ?_ ?_|refine gS (fun h=>?_) (fun h=>?_)|refine Spl.nt ?_|refine Spl.mk (fun h=>?_) (fun h=>?_))))
        conv => whnf
        conv in (ldA _ _ _) => tactic => exact ld_sec rfl rfl hl
        rfl
    | false =>
      have hu' : (!x.u) = true := by rw [hu]; rfl
      have he : entS x = zeroS := by unfold entS; rw [hu]; rfl
      rw [he]
      refine FnC.intro ti_ok Tryz.func128 rfl Tryz.ntmps128 Tryz.call128 rfl (Nat.le_of_ble_eq_true rfl) rfl ?_
      (repeat' ((conv=>whnf);first|with_reducible refine gA ?_|((with_reducible refine callE_id ?_); (refine CallE.con ⟨_, hr, ?_⟩)) | with_reducible refine AtA.mk' ?_|(with_reducible first|refine gB ?_|refine gZ (fun x hx hu=>?_)|refine gY (fun x hx=>?_)|refine gE ?_|refine Both.mk ?_ ?_|refine gS (fun h=>?_) (fun h=>?_)|refine Spl.nt ?_|refine Spl.mk (fun h=>?_) (fun h=>?_))))
      all_goals rfl
  · rw [if_neg h]
    rw [decide_eq_false h] at hr
    refine FnC.intro ti_ok Tryz.func128 rfl Tryz.ntmps128 Tryz.call128 rfl (Nat.le_of_ble_eq_true rfl) rfl ?_
    (repeat' ((conv=>whnf);first|with_reducible refine gA ?_|((with_reducible refine callE_id ?_); (refine CallE.con ⟨_, hr, ?_⟩)) | with_reducible refine AtA.mk' ?_|(with_reducible first|refine gB ?_|refine gZ (fun x hx hu=>?_)|refine gY (fun x hx=>?_)|refine gE ?_|refine Both.mk ?_ ?_|refine gS (fun h=>?_) (fun h=>?_)|refine Spl.nt ?_|refine Spl.mk (fun h=>?_) (fun h=>?_))))
    all_goals rfl
end Go.Proofs.YtijdbjjkfkjihaaGreatDoor

/- Some bytes of a sector. Conditions: none. -/
namespace Go.Proofs.YtijdbjjkfkjihaaGreatDoor
open Go.Sy
set_option maxRecDepth 100000
set_option linter.all false
theorem bytes_flat' : ∀ (n : List UInt8), (bytesD n).flatten = encS n
  | [] => rfl
  | b :: n => by show [D.it .u8 b.toNat] ++ (bytesD n).flatten = D.it .u8 b.toNat :: encS n; rw [bytes_flat' n]; rfl
set_option maxHeartbeats 4000000 in
theorem cut_ok (s : List UInt8) (hs : s.length = 32) (n : Nat) (hn : n < 256) : FnC Tryz.prog 124 [.dg 32 (encS s), .d (.it .i64 16), .d (.it .i64 (n : Nat))] (.d (.fs 1 (bytesD (if n ≤ 16 then (s.drop 16).take n else [])))) := by
  have hf := fits_ok 16 (n : Nat)
  by_cases h : n ≤ 16
  · rw [if_pos h]
    rw [decide_eq_true (by omega)] at hf
    refine FnC.intro ti_ok Tryz.func124 rfl Tryz.ntmps124 Tryz.call124 rfl (Nat.le_of_ble_eq_true rfl) rfl ?_
    (repeat' ((conv=>whnf);first|with_reducible refine gA ?_|((with_reducible refine callE_id ?_); first | refine CallE.con ⟨_, hf, ?_⟩ | refine CallE.inl ?_) | with_reducible refine CallI.inl ti_ok i58 rfl ?_|(with_reducible first|refine gB ?_|refine gZ (fun x hx hu=>?_)|refine gY (fun x hx=>?_)|refine gE ?_|refine Both.mk ?_ ?_|refine gS (fun h=>?_) (fun h=>?_)|refine Spl.nt ?_|refine Spl.mk (fun h=>?_) (fun h=>?_))))
    have hlen : ((16 + (n : Int)).toNat - Int.toNat 16) = n := by omega
    have hL : ((s.drop 16).take n).length = n := by rw [List.length_take, List.length_drop, hs]; omega
    refine ⟨bytesD ((s.drop 16).take n), ⟨?_, ?_, ?_, ?_, ?_⟩, ?_⟩
    · show 0 + Int.toNat 16 * 1 + ((16 + (n:Int)).toNat - Int.toNat 16) * 1 ≤ 32
      omega
    · show (bytesD ((s.drop 16).take n)).length = ((16 + (n:Int)).toNat - Int.toNat 16)
      rw [hlen]; unfold bytesD; rw [List.length_map, hL]
    · intro x hx
      show x.length = 1
      obtain ⟨b, _, rfl⟩ := List.mem_map.1 hx
      rfl
    · show (((encS s).map AV.d).drop (0 + Int.toNat 16 * 1)).take (((16 + (n:Int)).toNat - Int.toNat 16) * 1) = _
      rw [hlen, bytes_flat', Nat.mul_one]
      unfold encS
      rw [List.map_take, List.map_drop, List.map_take, List.map_drop]; rfl
    · show 0 + ((16 + (n:Int)).toNat - Int.toNat 16) ≤ 1073741824
      omega
    (repeat' ((conv=>whnf);first|with_reducible refine gA ?_|(with_reducible first|refine gB ?_|refine gZ (fun x hx hu=>?_)|refine gY (fun x hx=>?_)|refine gE ?_|refine Both.mk ?_ ?_|refine gS (fun h=>?_) (fun h=>?_)|refine Spl.nt ?_|refine Spl.mk (fun h=>?_) (fun h=>?_))))
    all_goals rfl
  · rw [if_neg h]
    rw [decide_eq_false (by omega)] at hf
    refine FnC.intro ti_ok Tryz.func124 rfl Tryz.ntmps124 Tryz.call124 rfl (Nat.le_of_ble_eq_true rfl) rfl ?_
    (repeat' ((conv=>whnf);first|with_reducible refine gA ?_|((with_reducible refine callE_id ?_); refine CallE.con ⟨_, hf, ?_⟩)|(with_reducible first|refine gB ?_|refine gZ (fun x hx hu=>?_)|refine gY (fun x hx=>?_)|refine gE ?_|refine Both.mk ?_ ?_|refine gS (fun h=>?_) (fun h=>?_)|refine Spl.nt ?_|refine Spl.mk (fun h=>?_) (fun h=>?_))))
    all_goals (show AV.d (.fs 1 []) = _; rfl)
end Go.Proofs.YtijdbjjkfkjihaaGreatDoor

namespace Go.Proofs.YtijdbjjkfkjihaaGreatDoor
open Go.Sy
set_option maxRecDepth 100000
set_option linter.all false
end Go.Proofs.YtijdbjjkfkjihaaGreatDoor

namespace Go.Proofs.YtijdbjjkfkjihaaGreatDoor
open Go.Sy
set_option maxRecDepth 100000
set_option linter.all false
end Go.Proofs.YtijdbjjkfkjihaaGreatDoor

namespace Go.Proofs.YtijdbjjkfkjihaaGreatDoor
open Go.Sy
set_option maxRecDepth 100000
set_option linter.all false
def joinR (l : List (List UInt8)) : List UInt8 := if l = [] then [47] else joinP l
def tup3 (a b : List UInt8) (e : Int) : AV := .tup [.d (.st a), .d (.st b), .d (.it .i64 e)]
def parR (p : List UInt8) : AV :=
  if (splitP p).2 ≠ 0 then tup3 [] [] (splitP p).2 else
  if (splitP p).1 = [] then tup3 [] [] 1 else tup3 (joinR (splitP p).1.dropLast) ((splitP p).1.getLastD []) 0
theorem joinP_snoc (l : List (List UInt8)) (w : List UInt8) : joinP (l ++ [w]) = joinP l ++ 47 :: w := by simp [joinP]
theorem joinP_take_len {l : List (List UInt8)} (k : Nat) : (joinP (l.take k)).length ≤ (joinP l).length := by
  have : joinP l = joinP (l.take k) ++ joinP (l.drop k) := by
    conv => lhs; rw [← List.take_append_drop k l]
    simp only [joinP, List.map_append, List.flatten_append]
  rw [this, List.length_append]; omega
theorem refJoin_ok (l : List (List UInt8)) (hl : (joinP l).length ≤ 1000000) (hn : l.length ≤ 1000000) : FnC Tryz.prog 77 [.d (.fs 1 (l.map stL))] (.d (.st (joinR l))) := by
  refine FnC.intro ti_ok Tryz.func77 rfl Tryz.ntmps77 Tryz.call77 rfl (Nat.le_of_ble_eq_true rfl) rfl ?_
  (repeat' ((conv=>whnf);first|with_reducible refine gA ?_|(with_reducible first|refine gB ?_|refine gZ (fun x hx hu=>?_)|refine gY (fun x hx=>?_)|refine gE ?_|refine Both.mk ?_ ?_|refine gS (fun h=>?_) (fun h=>?_)|refine Spl.nt ?_|refine Spl.mk (fun h=>?_) (fun h=>?_))))
  refine loop_rule ti_ok (fun k : Nat => k ≤ l.length) (fun k => ⟨[(0, .d (.fs 1 (l.map stL))), (3, .d (.st (joinP (l.take k)))), (4, .d (.it .i64 k))], [], 0⟩) (fun k => l.length - k) 0 (Nat.zero_le _) ⟨⟨rfl, rfl, rfl, trivial⟩, trivial, rfl⟩ ?_
  intro k k1
  have hla : (l.map stL).length = l.length := by simp
  have b1 := joinP_take_len (l := l) k
  have b2 := joinP_take_len (l := l) (k + 1)
  have b3 : ∀ x, l[k]? = some x → (joinP (l.take k)).length + (x.length + 1) ≤ 1000000 := fun x hx => by
    rw [take_snoc hx, joinP_snoc, List.length_append, List.length_cons] at b2; omega
  (repeat' ((conv=>whnf);first|with_reducible refine gA ?_|(with_reducible first|refine gB ?_|refine gZ (fun x hx hu=>?_)|refine gY (fun x hx=>?_)|refine gE ?_|refine Both.mk ?_ ?_|refine gS (fun h=>?_) (fun h=>?_)|refine Spl.nt ?_|refine Spl.mk (fun h=>?_) (fun h=>?_))))
  · have := b3 x hx
    (repeat' ((conv=>whnf);first|with_reducible refine gA ?_|(with_reducible first|refine gB ?_|refine gZ (fun x hx hu=>?_)|refine gY (fun x hx=>?_)|refine gE ?_|refine Both.mk ?_ ?_|refine gS (fun h=>?_) (fun h=>?_)|refine Spl.nt ?_|refine Spl.mk (fun h=>?_) (fun h=>?_))))
    refine again (k + 1) (by omega) (by dsimp only; omega) (And.intro rfl (And.intro (st_eq ?_) (And.intro rfl trivial))) trivial rfl
    rw [take_snoc hx, joinP_snoc, List.append_assoc]; rfl
  · refine st_eq ?_
    rw [joinR, if_pos (List.length_eq_zero_iff.1 (by simp only [List.length_map] at h; omega))]
  · refine st_eq ?_
    rw [show k = l.length by omega, List.take_length, joinR, if_neg (fun h' => by subst h'; exact h rfl)]
theorem all_name {l : List (List UInt8)} (h : l.all nameB = true) : ∀ w ∈ l, w.length ≤ 8 := fun w hw => by
  have := List.all_eq_true.1 h w hw
  simp only [nameB, Bool.and_eq_true, decide_eq_true_eq] at this
  exact this.1.2.1
theorem splitP_name (p : List UInt8) : (splitP p).1.length ≤ 4 ∧ (splitP p).1.all nameB = true ∧ ((splitP p).1 ≠ [] → (splitP p).2 = 0) := by
  unfold splitP
  split
  · exact ⟨by simp, rfl, fun h => absurd rfl h⟩
  · split
    · exact ⟨by simp, rfl, fun h => absurd rfl h⟩
    · split
      · split
        · rename_i h; exact ⟨h.1, h.2, fun _ => rfl⟩
        · exact ⟨by simp, rfl, fun h => absurd rfl h⟩
      · exact ⟨by simp, rfl, fun h => absurd rfl h⟩
theorem pathJoin_ok (l : List (List UInt8)) (hn : l.length ≤ 1000000) (hl : (Lib.join l [47]).length ≤ 1000000) : FnC Tryz.prog 64 [.d (.fs 1 (l.map stL))] (.d (.st (47 :: Lib.join l [47]))) := by
  refine FnC.intro ti_ok Tryz.func64 rfl Tryz.ntmps64 Tryz.call64 rfl (Nat.le_of_ble_eq_true rfl) rfl ?_
  (repeat' ((conv=>whnf);first|with_reducible refine gA ?_|refine CallE.con ⟨_, join_ok l [47] hn (by omega), ?_⟩|(with_reducible first|refine gB ?_|refine gZ (fun x hx hu=>?_)|refine gY (fun x hx=>?_)|refine gE ?_|refine Both.mk ?_ ?_|refine gS (fun h=>?_) (fun h=>?_)|refine Spl.nt ?_|refine Spl.mk (fun h=>?_) (fun h=>?_))))
  rfl
theorem tup3_st {a b x : List UInt8} (h : a = b) : AV.tup [.d (.st a), .d (.st x), .d (.it .i64 0)] = tup3 b x 0 := by rw [h]; rfl
theorem par_ok (p : List UInt8) (hp : p.length ≤ 100000) : FnC Tryz.prog 83 [.d (.st p)] (parR p) := by
  have h1 := pathSplit_ok p hp
  obtain ⟨n1, n2, n3⟩ := splitP_name p
  unfold parR
  generalize splitP p = sp at *
  obtain ⟨l, e⟩ := sp
  simp only at n1 n2 n3
  have n4 := all_name n2
  match l with
  | [] =>
    by_cases he : e = 0
    · subst he
      show FnC _ _ _ (tup3 [] [] 1)
      refine FnC.intro ti_ok Tryz.func83 rfl Tryz.ntmps83 Tryz.call83 rfl (Nat.le_of_ble_eq_true rfl) rfl ?_
      (repeat' ((conv=>whnf);first|with_reducible refine gA ?_|refine CallE.con ⟨_, h1, ?_⟩|(with_reducible first|refine gB ?_|refine gZ (fun x hx hu=>?_)|refine gY (fun x hx=>?_)|refine gE ?_|refine Both.mk ?_ ?_|refine gS (fun h=>?_) (fun h=>?_)|refine Spl.nt ?_|refine Spl.mk (fun h=>?_) (fun h=>?_))))
      rfl
    · simp only [ne_eq, he, not_false_eq_true, if_true]
      refine FnC.intro ti_ok Tryz.func83 rfl Tryz.ntmps83 Tryz.call83 rfl (Nat.le_of_ble_eq_true rfl) rfl ?_
      (repeat' ((conv=>whnf);first|with_reducible refine gA ?_|refine CallE.con ⟨_, h1, ?_⟩|(with_reducible first|refine gB ?_|refine gZ (fun x hx hu=>?_)|refine gY (fun x hx=>?_)|refine gE ?_|refine Both.mk ?_ ?_|refine gS (fun h=>?_) (fun h=>?_)|refine Spl.nt ?_|refine Spl.mk (fun h=>?_) (fun h=>?_))))
      rfl
  | [a] =>
    obtain rfl := n3 (by simp)
    replace h1 : FnC _ _ _ (.tup [.d (.fs 1 [[.st a]]), .d (.it .i64 0)]) := h1
    have la := n4 a (by simp)
    show FnC _ _ _ (tup3 (joinR []) a 0)
    have hj := pathJoin_ok [] (by simp) (by simp [Lib.join, List.intercalate]; try omega)
    refine FnC.intro ti_ok Tryz.func83 rfl Tryz.ntmps83 Tryz.call83 rfl (Nat.le_of_ble_eq_true rfl) rfl ?_
    (repeat' ((conv=>whnf);first|with_reducible refine gA ?_|refine CallE.con ⟨_, h1, ?_⟩ | refine CallP.mk ⟨_, hj, ?_⟩|(with_reducible first|refine gB ?_|refine gZ (fun x hx hu=>?_)|refine gY (fun x hx=>?_)|refine gE ?_|refine Both.mk ?_ ?_|refine gS (fun h=>?_) (fun h=>?_)|refine Spl.nt ?_|refine Spl.mk (fun h=>?_) (fun h=>?_))))
    exact (tup3_st (x := a) (show 47 :: Lib.join [] [47] = joinR [] by simp [joinR, joinP, Lib.join, List.intercalate]) : _)
  | [a, b] =>
    obtain rfl := n3 (by simp)
    replace h1 : FnC _ _ _ (.tup [.d (.fs 1 [[.st a], [.st b]]), .d (.it .i64 0)]) := h1
    have la := n4 a (by simp); have lb := n4 b (by simp)
    show FnC _ _ _ (tup3 (joinR [a]) b 0)
    have hj := pathJoin_ok [a] (by simp) (by simp [Lib.join, List.intercalate]; try omega)
    refine FnC.intro ti_ok Tryz.func83 rfl Tryz.ntmps83 Tryz.call83 rfl (Nat.le_of_ble_eq_true rfl) rfl ?_
    (repeat' ((conv=>whnf);first|with_reducible refine gA ?_|refine CallE.con ⟨_, h1, ?_⟩ | refine CallP.mk ⟨_, hj, ?_⟩|(with_reducible first|refine gB ?_|refine gZ (fun x hx hu=>?_)|refine gY (fun x hx=>?_)|refine gE ?_|refine Both.mk ?_ ?_|refine gS (fun h=>?_) (fun h=>?_)|refine Spl.nt ?_|refine Spl.mk (fun h=>?_) (fun h=>?_))))
    exact (tup3_st (x := b) (show 47 :: Lib.join [a] [47] = joinR [a] by simp [joinR, joinP, Lib.join, List.intercalate]) : _)
  | [a, b, c] =>
    obtain rfl := n3 (by simp)
    replace h1 : FnC _ _ _ (.tup [.d (.fs 1 [[.st a], [.st b], [.st c]]), .d (.it .i64 0)]) := h1
    have la := n4 a (by simp); have lb := n4 b (by simp); have lc := n4 c (by simp)
    show FnC _ _ _ (tup3 (joinR [a, b]) c 0)
    have hj := pathJoin_ok [a, b] (by simp) (by simp [Lib.join, List.intercalate]; try omega)
    refine FnC.intro ti_ok Tryz.func83 rfl Tryz.ntmps83 Tryz.call83 rfl (Nat.le_of_ble_eq_true rfl) rfl ?_
    (repeat' ((conv=>whnf);first|with_reducible refine gA ?_|refine CallE.con ⟨_, h1, ?_⟩ | refine CallP.mk ⟨_, hj, ?_⟩|(with_reducible first|refine gB ?_|refine gZ (fun x hx hu=>?_)|refine gY (fun x hx=>?_)|refine gE ?_|refine Both.mk ?_ ?_|refine gS (fun h=>?_) (fun h=>?_)|refine Spl.nt ?_|refine Spl.mk (fun h=>?_) (fun h=>?_))))
    exact (tup3_st (x := c) (show 47 :: Lib.join [a, b] [47] = joinR [a, b] by simp [joinR, joinP, Lib.join, List.intercalate]) : _)
  | [a, b, c, d] =>
    obtain rfl := n3 (by simp)
    replace h1 : FnC _ _ _ (.tup [.d (.fs 1 [[.st a], [.st b], [.st c], [.st d]]), .d (.it .i64 0)]) := h1
    have la := n4 a (by simp); have lb := n4 b (by simp); have lc := n4 c (by simp); have ld := n4 d (by simp)
    show FnC _ _ _ (tup3 (joinR [a, b, c]) d 0)
    have hj := pathJoin_ok [a, b, c] (by simp) (by simp [Lib.join, List.intercalate]; try omega)
    refine FnC.intro ti_ok Tryz.func83 rfl Tryz.ntmps83 Tryz.call83 rfl (Nat.le_of_ble_eq_true rfl) rfl ?_
    (repeat' ((conv=>whnf);first|with_reducible refine gA ?_|refine CallE.con ⟨_, h1, ?_⟩ | refine CallP.mk ⟨_, hj, ?_⟩|(with_reducible first|refine gB ?_|refine gZ (fun x hx hu=>?_)|refine gY (fun x hx=>?_)|refine gE ?_|refine Both.mk ?_ ?_|refine gS (fun h=>?_) (fun h=>?_)|refine Spl.nt ?_|refine Spl.mk (fun h=>?_) (fun h=>?_))))
    exact (tup3_st (x := d) (show 47 :: Lib.join [a, b, c] [47] = joinR [a, b, c] by simp [joinR, joinP, Lib.join, List.intercalate]) : _)
  | a :: b :: c :: d :: e :: r => simp at n1
end Go.Proofs.YtijdbjjkfkjihaaGreatDoor

namespace Go.Proofs.YtijdbjjkfkjihaaGreatDoor
open Go.Sy
set_option maxRecDepth 100000
set_option linter.all false
theorem mayB_no {n : Nod} (h : ¬ ((splitP n.p).2 = 0 ∧ (splitP n.p).1 ≠ [] ∧ n.x.length ≤ 128 ∧ (n.d = true → n.x = []))) : mayB n = false := decide_eq_false h
theorem mayB_yes {n : Nod} (h : (splitP n.p).2 = 0 ∧ (splitP n.p).1 ≠ [] ∧ n.x.length ≤ 128 ∧ (n.d = true → n.x = [])) : mayB n = true := decide_eq_true h
theorem vmay_ok (n : Nod) (hp : n.p.length ≤ 100000) : FnC Tryz.prog 41 [.dg 3 (encN n)] (.d (.bl (mayB n))) := by
  refine FnC.intro ti_ok Tryz.func41 rfl Tryz.ntmps41 Tryz.call41 rfl (Nat.le_of_ble_eq_true rfl) rfl ?_
  obtain ⟨p, d, x⟩ := n
  have h1 := par_ok p hp
  unfold parR at h1
  by_cases e0 : (splitP p).2 = 0
  · rw [if_neg (by simpa using e0)] at h1
    by_cases e1 : (splitP p).1 = []
    · rw [if_pos e1] at h1
      rw [mayB_no (fun h => h.2.1 e1)]
      (repeat' ((conv=>whnf);first|with_reducible refine gA ?_|refine CallE.con ⟨_, h1, ?_⟩|(with_reducible first|refine gB ?_|refine gZ (fun x hx hu=>?_)|refine gY (fun x hx=>?_)|refine gE ?_|refine Both.mk ?_ ?_|refine gS (fun h=>?_) (fun h=>?_)|refine Spl.nt ?_|refine Spl.mk (fun h=>?_) (fun h=>?_))))
      rfl
    · rw [if_neg e1] at h1
      by_cases hx : x.length ≤ 128
      · cases d
        · rw [mayB_yes ⟨e0, e1, hx, fun h => by cases h⟩]
          (repeat' ((conv=>whnf);first|with_reducible refine gA ?_|refine CallE.con ⟨_, h1, ?_⟩|(with_reducible first|refine gB ?_|refine gZ (fun x hx hu=>?_)|refine gY (fun x hx=>?_)|refine gE ?_|refine Both.mk ?_ ?_|refine gS (fun h=>?_) (fun h=>?_)|refine Spl.nt ?_|refine Spl.mk (fun h=>?_) (fun h=>?_))))
          all_goals first | rfl | (exfalso; dsimp only at *; omega)
        · by_cases hn : x = []
          · subst hn
            rw [mayB_yes ⟨e0, e1, hx, fun _ => rfl⟩]
            (repeat' ((conv=>whnf);first|with_reducible refine gA ?_|refine CallE.con ⟨_, h1, ?_⟩|(with_reducible first|refine gB ?_|refine gZ (fun x hx hu=>?_)|refine gY (fun x hx=>?_)|refine gE ?_|refine Both.mk ?_ ?_|refine gS (fun h=>?_) (fun h=>?_)|refine Spl.nt ?_|refine Spl.mk (fun h=>?_) (fun h=>?_))))
            all_goals rfl
          · rw [mayB_no (fun h => hn (h.2.2.2 rfl))]
            (repeat' ((conv=>whnf);first|with_reducible refine gA ?_|refine CallE.con ⟨_, h1, ?_⟩|(with_reducible first|refine gB ?_|refine gZ (fun x hx hu=>?_)|refine gY (fun x hx=>?_)|refine gE ?_|refine Both.mk ?_ ?_|refine gS (fun h=>?_) (fun h=>?_)|refine Spl.nt ?_|refine Spl.mk (fun h=>?_) (fun h=>?_))))
            all_goals first | rfl | exact bl_eq (seq_ff hn) | exact bl_eq (by rw [sne_tt hn]; rfl) | (exfalso; dsimp only at *; omega)
      · rw [mayB_no (fun h => hx h.2.2.1)]
        (repeat' ((conv=>whnf);first|with_reducible refine gA ?_|refine CallE.con ⟨_, h1, ?_⟩|(with_reducible first|refine gB ?_|refine gZ (fun x hx hu=>?_)|refine gY (fun x hx=>?_)|refine gE ?_|refine Both.mk ?_ ?_|refine gS (fun h=>?_) (fun h=>?_)|refine Spl.nt ?_|refine Spl.mk (fun h=>?_) (fun h=>?_))))
        all_goals first | rfl | (exfalso; dsimp only at *; omega)
  · rw [if_pos (by simpa using e0)] at h1
    rw [mayB_no (fun h => e0 h.1)]
    (repeat' ((conv=>whnf);first|with_reducible refine gA ?_|refine CallE.con ⟨_, h1, ?_⟩|(with_reducible first|refine gB ?_|refine gZ (fun x hx hu=>?_)|refine gY (fun x hx=>?_)|refine gE ?_|refine Both.mk ?_ ?_|refine gS (fun h=>?_) (fun h=>?_)|refine Spl.nt ?_|refine Spl.mk (fun h=>?_) (fun h=>?_))))
    rfl
def hexD : List UInt8 := [48, 49, 50, 51, 52, 53, 54, 55, 56, 57, 97, 98, 99, 100, 101, 102]
def signQ (c : UInt8) : List UInt8 := if plainB c = true then [c] else [92, hexD.getD (c.toNat / 16) 0, hexD.getD (c.toNat % 16) 0]
def quoteS (s : List UInt8) : List UInt8 := 34 :: (s.flatMap signQ ++ [34])
def qAcc (s : List UInt8) (k : Nat) : List UInt8 := 34 :: (s.take k).flatMap signQ
def qA (s : List UInt8) (k : Nat) : S := ⟨[(3, .ptr 0 0), (8, .d (.fs 1 (bytesD s))), (9, .d (.it .i64 s.length)), (10, .d (.it .i64 k))], [(0, .cells 2 [.ptr 0 0, .ts 1 (bytesD (qAcc s k)) 4]), (1, .tag 0 76), (4, .tail 5 true)], 5⟩
theorem signQ_len (c : UInt8) : (signQ c).length ≤ 3 := by unfold signQ; split <;> simp
theorem qAcc_len (s : List UInt8) (k : Nat) : (qAcc s k).length ≤ 3 * k + 1 := by
  have key : ∀ l : List UInt8, (l.flatMap signQ).length ≤ 3 * l.length := by
    intro l
    induction l with
    | nil => simp
    | cons a l ih => have := signQ_len a; rw [List.flatMap_cons, List.length_append, List.length_cons]; omega
  have := key (s.take k)
  rw [List.length_take] at this
  unfold qAcc
  rw [List.length_cons]; omega
theorem shr4 (x : UInt8) : (x.toNat : Int).fdiv (2 ^ (min (4 : Int).toNat (IntKind.bits .u8))) = ((x.toNat / 16 : Nat) : Int) := by
  have : ∀ n : Nat, n < 256 → (n : Int).fdiv (2 ^ (min (4 : Int).toNat (IntKind.bits .u8))) = ((n / 16 : Nat) : Int) := by decide +kernel
  exact this _ (by have := x.toNat_lt; omega)
theorem and15 (x : UInt8) : IntKind.u8.wrap ((BitVec.ofInt (IntKind.bits .u8) x.toNat &&& BitVec.ofInt (IntKind.bits .u8) 15).toNat : Int) = ((x.toNat % 16 : Nat) : Int) := by
  have : ∀ n : Nat, n < 256 → IntKind.u8.wrap ((BitVec.ofInt (IntKind.bits .u8) (n : Int) &&& BitVec.ofInt (IntKind.bits .u8) 15).toNat : Int) = ((n % 16 : Nat) : Int) := by decide +kernel
  exact this _ (by have := x.toNat_lt; omega)
theorem bytesD_app (a b : List UInt8) : bytesD (a ++ b) = bytesD a ++ bytesD b := by simp [bytesD]
theorem qAcc_1 {s : List UInt8} {k : Nat} {x : UInt8} (hx : s[k]? = some x) (h : plainB x = true) : bytesD (qAcc s k) ++ [[D.it .u8 x.toNat]] = bytesD (qAcc s (k + 1)) := by
  rw [qAcc, qAcc, take_snoc hx, List.flatMap_append]
  simp only [List.flatMap_cons, List.flatMap_nil, List.append_nil, signQ, h, if_true]
  rw [← List.cons_append, bytesD_app]; rfl
theorem hex_at {n : Nat} {c : UInt8} (h : hexD[((n : Nat) : Int).toNat]? = some c) : c = hexD.getD n 0 := by
  rw [Int.toNat_natCast] at h
  rw [List.getD, h]; rfl
theorem qAcc_2 {s : List UInt8} {k : Nat} {x c d : UInt8} (hx : s[k]? = some x) (h : plainB x = false) (hc : hexD[((x.toNat / 16 : Nat) : Int).toNat]? = some c) (hd : hexD[((x.toNat % 16 : Nat) : Int).toNat]? = some d) :
    bytesD (qAcc s k) ++ [[D.it .u8 92]] ++ [[D.it .u8 c.toNat]] ++ [[D.it .u8 d.toNat]] = bytesD (qAcc s (k + 1)) := by
  rw [qAcc, qAcc, take_snoc hx, List.flatMap_append]
  simp only [List.flatMap_cons, List.flatMap_nil, List.append_nil, signQ, h, Bool.false_eq_true, if_false]
  rw [← hex_at hc, ← hex_at hd, ← List.cons_append, bytesD_app, List.append_assoc, List.append_assoc]; rfl
theorem quote_ok (s : List UInt8) (hs : s.length ≤ 1000000) : FnC Tryz.prog 19 [.d (.st s)] (.d (.st (quoteS s))) := by
  refine FnC.intro ti_ok Tryz.func19 rfl Tryz.ntmps19 Tryz.call19 rfl (Nat.le_of_ble_eq_true rfl) rfl ?_
  (repeat' ((conv=>whnf);first|with_reducible refine gA ?_|with_reducible refine CallI.inl ti_ok i37 rfl ?_ | with_reducible refine CallI.inl ti_ok i82 rfl ?_ | with_reducible refine CallI.ident noEsc (by with_unfolding_all exact rfl) ?_|(with_reducible first|refine gB ?_|refine gZ (fun x hx hu=>?_)|refine gY (fun x hx=>?_)|refine gE ?_|refine Both.mk ?_ ?_|refine gS (fun h=>?_) (fun h=>?_)|refine Spl.nt ?_|refine Spl.mk (fun h=>?_) (fun h=>?_))))
  refine loop_rule ti_ok (fun k : Nat => k ≤ s.length) (qA s) (fun k => s.length - k) 0 (Nat.zero_le _) ⟨⟨rfl, rfl, it_eq (by simp [bytesD]), rfl, trivial⟩, ⟨rfl, rfl, rfl, trivial⟩, rfl⟩ ?_
  intro k hk
  have hb : (bytesD s).length = s.length := by simp [bytesD]
  have hq1 : (bytesD (qAcc s k)).length = (qAcc s k).length := by simp [bytesD]
  have hq2 := qAcc_len s k
  (repeat' ((conv=>whnf);first|with_reducible refine gA ?_|with_reducible refine fun (c : UInt8) hc => ?_ | refine CallE.con ⟨_, plain_ok x, ?_⟩ | with_reducible refine LetI.eq ((x.toNat / 16 : Nat) : Int) (by with_unfolding_all exact shr4 x) ?_ | with_reducible refine LetI.eq ((x.toNat % 16 : Nat) : Int) (by with_unfolding_all exact and15 x) ?_ | with_reducible refine CallI.inl ti_ok i38 rfl ?_ | with_reducible refine CallI.inl ti_ok i37 rfl ?_ | with_reducible refine CallI.inl ti_ok i82 rfl ?_ | with_reducible refine CallI.ident noEsc (by with_unfolding_all exact rfl) ?_|(with_reducible first|refine gB ?_|refine gZ (fun x hx hu=>?_)|refine gY (fun x hx=>?_)|refine gE ?_|refine Both.mk ?_ ?_|refine gS (fun h=>?_) (fun h=>?_)|refine Spl.nt ?_|refine Spl.mk (fun h=>?_) (fun h=>?_))))
  · refine again (k + 1) (by omega) (by dsimp only; omega) (And.intro rfl (And.intro rfl (And.intro rfl (And.intro rfl trivial)))) (And.intro ?_ (And.intro rfl (And.intro rfl trivial))) rfl
    show Ob.cells 2 [.ptr 0 0, .ts 1 (bytesD (qAcc s k) ++ [[.it .u8 x.toNat]]) 4] = _
    rw [qAcc_1 hx h]
  · rename_i c' hc'
    refine again (k + 1) (by omega) (by dsimp only; omega) (And.intro rfl (And.intro rfl (And.intro rfl (And.intro rfl trivial)))) (And.intro ?_ (And.intro rfl (And.intro rfl trivial))) rfl
    show Ob.cells 2 [.ptr 0 0, .ts 1 (bytesD (qAcc s k) ++ [[.it .u8 92]] ++ [[.it .u8 c'.toNat]] ++ [[.it .u8 c.toNat]]) 4] = _
    rw [qAcc_2 hx (by simpa using h) hc' hc]
  · have hk' : k = s.length := by omega
    have e : bytesD (qAcc s k) ++ [[D.it .u8 34]] = bytesD (quoteS s) := by
      rw [quoteS, qAcc, hk', List.take_length, ← List.cons_append, bytesD_app]; rfl
    have e2 : (quoteS s).length = (qAcc s k).length + 1 := by
      have := congrArg List.length e
      simp [bytesD] at this
      omega
    refine ⟨quoteS s, ⟨e, ?_, ?_⟩, rfl⟩
    · show ((bytesD (qAcc s k) ++ [[D.it .u8 34]]).length : Int) = ((quoteS s).length : Int)
      rw [e]; simp [bytesD]
    · omega
end Go.Proofs.YtijdbjjkfkjihaaGreatDoor

/- Texts in quotes, and out of them; nodes as text, and out of it. Conditions: none. -/
namespace Go.Proofs.YtijdbjjkfkjihaaGreatDoor
open Go.Sy
set_option maxRecDepth 100000
set_option linter.all false
def vline (n : Nod) : List UInt8 := if n.d = true then n.p ++ [47, 10] else n.p ++ 32 :: (quoteS n.x ++ [10])
def showN (l : List Nod) : List UInt8 := l.flatMap vline
end Go.Proofs.YtijdbjjkfkjihaaGreatDoor
