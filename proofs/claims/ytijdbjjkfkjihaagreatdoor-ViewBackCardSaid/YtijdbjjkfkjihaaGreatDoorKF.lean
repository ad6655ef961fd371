/- Contracts of the functions that the law reaches, and the law. Conditions: none. -/
import Derived.Test.YtijdbjjkfkjihaaGreatDoorKC
import Derived.Test.YtijdbjjkfkjihaaGreatDoorSC
set_option linter.all false
/- Texts cut at a byte; a byte of two digits. Conditions: none. -/
namespace Go.Proofs.YtijdbjjkfkjihaaGreatDoor
open Go.Sy
set_option maxRecDepth 100000
set_option linter.all false
theorem hasPreC_ok (c : UInt8) (s : List UInt8) : FnC Tryz.prog 106 [.d (.st s), .d (.st [c])] (.d (.bl (decide (s.head? = some c)))) := by
  refine FnC.intro ti_ok Tryz.func106 rfl Tryz.ntmps106 Tryz.call106 rfl (Nat.le_of_ble_eq_true rfl) rfl ?_
  match s with
  | [] =>
    (repeat' ((conv=>whnf);first|with_reducible refine gA ?_|(with_reducible first|refine gB ?_|refine gZ (fun x hx hu=>?_)|refine gY (fun x hx=>?_)|refine gE ?_|refine Both.mk ?_ ?_|refine gS (fun h=>?_) (fun h=>?_)|refine Spl.nt ?_|refine Spl.mk (fun h=>?_) (fun h=>?_))))
    rfl
  | b :: r =>
    (repeat' ((conv=>whnf);first|with_reducible refine gA ?_|(with_reducible first|refine gB ?_|refine gZ (fun x hx hu=>?_)|refine gY (fun x hx=>?_)|refine gE ?_|refine Both.mk ?_ ?_|refine gS (fun h=>?_) (fun h=>?_)|refine Spl.nt ?_|refine Spl.mk (fun h=>?_) (fun h=>?_))))
    · refine bl_eq ?_
      show ([b] == [c]) = decide (some b = some c)
      by_cases hb : b = c
      · subst hb; rw [decide_eq_true rfl]; exact beq_self_eq_true _
      · rw [seq_ff (by simpa using hb)]; exact (decide_eq_false (by simpa using hb)).symm
    · exfalso; simp at h; omega
theorem cutPC_ok (c : UInt8) (s : List UInt8) : FnC Tryz.prog 33 [.d (.st s), .d (.st [c])] (.tup [.d (.st (if s.head? = some c then s.drop 1 else s)), .d (.bl (decide (s.head? = some c)))]) := by
  have h := hasPreC_ok c s
  refine FnC.intro ti_ok Tryz.func33 rfl Tryz.ntmps33 Tryz.call33 rfl (Nat.le_of_ble_eq_true rfl) rfl ?_
  by_cases hc : s.head? = some c
  · rw [if_pos hc]
    rw [decide_eq_true hc] at h ⊢
    have hl : 1 ≤ s.length := by cases s with | nil => cases hc | cons => simp
    (repeat' ((conv=>whnf);first|with_reducible refine gA ?_|with_reducible refine CallI.inl ti_ok i79 rfl ?_ | ((with_reducible refine callE_id ?_); first | refine CallE.con ⟨_, h, ?_⟩ | refine CallE.inl ?_)|(with_reducible first|refine gB ?_|refine gZ (fun x hx hu=>?_)|refine gY (fun x hx=>?_)|refine gE ?_|refine Both.mk ?_ ?_|refine gS (fun h=>?_) (fun h=>?_)|refine Spl.nt ?_|refine Spl.mk (fun h=>?_) (fun h=>?_))))
    exact tup_st rfl
  · rw [if_neg hc]
    rw [decide_eq_false hc] at h ⊢
    (repeat' ((conv=>whnf);first|with_reducible refine gA ?_|with_reducible refine CallI.inl ti_ok i79 rfl ?_ | ((with_reducible refine callE_id ?_); first | refine CallE.con ⟨_, h, ?_⟩ | refine CallE.inl ?_)|(with_reducible first|refine gB ?_|refine gZ (fun x hx hu=>?_)|refine gY (fun x hx=>?_)|refine gE ?_|refine Both.mk ?_ ?_|refine gS (fun h=>?_) (fun h=>?_)|refine Spl.nt ?_|refine Spl.mk (fun h=>?_) (fun h=>?_))))
    rfl
theorem last_drop (s : List UInt8) (c : UInt8) (h : 1 ≤ s.length) : (s.drop (s.length - 1) == [c]) = decide (s.getLast? = some c) := by
  have hne : s ≠ [] := by rintro rfl; simp at h
  have e := List.dropLast_concat_getLast hne
  generalize s.getLast hne = x at e
  generalize s.dropLast = i at e
  subst e
  rw [List.getLast?_concat, List.length_append, List.length_singleton, Nat.add_sub_cancel, List.drop_left]
  by_cases hb : x = c
  · rw [hb, decide_eq_true rfl]; exact beq_self_eq_true _
  · rw [seq_ff (by simpa using hb)]; exact (decide_eq_false (by simpa using hb)).symm
theorem hasSufC_ok (c : UInt8) (s : List UInt8) (hs : s.length ≤ 1000000) : FnC Tryz.prog 107 [.d (.st s), .d (.st [c])] (.d (.bl (decide (s.getLast? = some c)))) := by
  refine FnC.intro ti_ok Tryz.func107 rfl Tryz.ntmps107 Tryz.call107 rfl (Nat.le_of_ble_eq_true rfl) rfl ?_
  have hc1 : ([c] : List UInt8).length = 1 := rfl
  by_cases h1 : 1 ≤ s.length
  · rw [← last_drop s c h1]
    (repeat' ((conv=>whnf);first|with_reducible refine gA ?_|(with_reducible first|refine gB ?_|refine gZ (fun x hx hu=>?_)|refine gY (fun x hx=>?_)|refine gE ?_|refine Both.mk ?_ ?_|refine gS (fun h=>?_) (fun h=>?_)|refine Spl.nt ?_|refine Spl.mk (fun h=>?_) (fun h=>?_))))
    refine bl_eq ?_
    show (s.drop _ == [c]) = _
    congr 2
    omega
  · have : s = [] := List.length_eq_zero_iff.1 (by omega)
    subst this
    (repeat' ((conv=>whnf);first|with_reducible refine gA ?_|(with_reducible first|refine gB ?_|refine gZ (fun x hx hu=>?_)|refine gY (fun x hx=>?_)|refine gE ?_|refine Both.mk ?_ ?_|refine gS (fun h=>?_) (fun h=>?_)|refine Spl.nt ?_|refine Spl.mk (fun h=>?_) (fun h=>?_))))
    rfl
theorem cutSC_ok (c : UInt8) (s : List UInt8) (hs : s.length ≤ 1000000) : FnC Tryz.prog 34 [.d (.st s), .d (.st [c])] (.tup [.d (.st (if s.getLast? = some c then s.dropLast else s)), .d (.bl (decide (s.getLast? = some c)))]) := by
  have h := hasSufC_ok c s hs
  refine FnC.intro ti_ok Tryz.func34 rfl Tryz.ntmps34 Tryz.call34 rfl (Nat.le_of_ble_eq_true rfl) rfl ?_
  by_cases hc : s.getLast? = some c
  · rw [if_pos hc]
    rw [decide_eq_true hc] at h ⊢
    have hl : 1 ≤ s.length := by cases s with | nil => cases hc | cons => simp
    (repeat' ((conv=>whnf);first|with_reducible refine gA ?_|with_reducible refine CallI.inl ti_ok i80 rfl ?_ | ((with_reducible refine callE_id ?_); first | refine CallE.con ⟨_, h, ?_⟩ | refine CallE.inl ?_)|(with_reducible first|refine gB ?_|refine gZ (fun x hx hu=>?_)|refine gY (fun x hx=>?_)|refine gE ?_|refine Both.mk ?_ ?_|refine gS (fun h=>?_) (fun h=>?_)|refine Spl.nt ?_|refine Spl.mk (fun h=>?_) (fun h=>?_))))
    refine tup_st ?_
    rw [List.dropLast_eq_take]
    show s.take _ = s.take _
    congr 1
    have hc1 : ([c] : List UInt8).length = 1 := rfl
    omega
  · rw [if_neg hc]
    rw [decide_eq_false hc] at h ⊢
    (repeat' ((conv=>whnf);first|with_reducible refine gA ?_|with_reducible refine CallI.inl ti_ok i80 rfl ?_ | ((with_reducible refine callE_id ?_); first | refine CallE.con ⟨_, h, ?_⟩ | refine CallE.inl ?_)|(with_reducible first|refine gB ?_|refine gZ (fun x hx hu=>?_)|refine gY (fun x hx=>?_)|refine gE ?_|refine Both.mk ?_ ?_|refine gS (fun h=>?_) (fun h=>?_)|refine Spl.nt ?_|refine Spl.mk (fun h=>?_) (fun h=>?_))))
    rfl
theorem indexL_ok (s : List UInt8) (c : UInt8) : FnC Tryz.prog 110 [.d (.st s), .d (.st [c])] (.d (.it .i64 (Lib.indexByte s c))) := still_ok Tryz.call110 fun w => Tryz.stringslite_Index_one ⟨s.toArray⟩ c w
def cutA (r : List UInt8 × Option (List UInt8)) : AV := .tup [.d (.st r.1), .d (.st (r.2.getD [])), .d (.bl r.2.isSome)]
theorem cutC_ok (c : UInt8) (s : List UInt8) (hs : s.length ≤ 1000000) : FnC Tryz.prog 45 [.d (.st s), .d (.st [c])] (cutA (cutC c s)) := by
  have hi := indexL_ok s c
  refine FnC.intro ti_ok Tryz.func45 rfl Tryz.ntmps45 Tryz.call45 rfl (Nat.le_of_ble_eq_true rfl) rfl ?_
  rcases cutC_idx (c := c) s with ⟨h1, h2⟩ | ⟨h1, h2, h3⟩
  · rw [h2]
    rw [h1] at hi
    (repeat' ((conv=>whnf);first|with_reducible refine gA ?_|with_reducible refine CallI.inl ti_ok i85 rfl ?_ | ((with_reducible refine callE_id ?_); first | refine CallE.con ⟨_, hi, ?_⟩ | refine CallE.inl ?_)|(with_reducible first|refine gB ?_|refine gZ (fun x hx hu=>?_)|refine gY (fun x hx=>?_)|refine gE ?_|refine Both.mk ?_ ?_|refine gS (fun h=>?_) (fun h=>?_)|refine Spl.nt ?_|refine Spl.mk (fun h=>?_) (fun h=>?_))))
    rfl
  · rw [h3]
    generalize Lib.indexByte s c = q at *
    (repeat' ((conv=>whnf);first|with_reducible refine gA ?_|with_reducible refine CallI.inl ti_ok i85 rfl ?_ | ((with_reducible refine callE_id ?_); first | refine CallE.con ⟨_, hi, ?_⟩ | refine CallE.inl ?_)|(with_reducible first|refine gB ?_|refine gZ (fun x hx hu=>?_)|refine gY (fun x hx=>?_)|refine gE ?_|refine Both.mk ?_ ?_|refine gS (fun h=>?_) (fun h=>?_)|refine Spl.nt ?_|refine Spl.mk (fun h=>?_) (fun h=>?_))))
    all_goals first | (exfalso; omega) | skip
    show AV.tup [.d (.st (s.take q.toNat)), .d (.st (s.drop (q + 1).toNat)), .d (.bl true)] = AV.tup [.d (.st (s.take q.toNat)), .d (.st (s.drop (q.toNat + 1))), .d (.bl true)]
    rw [show (q + 1).toNat = q.toNat + 1 by omega]
theorem indexB_ok (s : List UInt8) (c : UInt8) : FnC Tryz.prog 81 [.d (.st s), .d (.it .u8 c.toNat)] (.d (.it .i64 (Lib.indexByte s c))) := by
  refine ⟨rfl, fun g w vs hfz hsz hav => .inl ⟨Tryz.call81 _ _, ?_⟩⟩
  have ha := hav 0 (by simp)
  have hb := hav 1 (by simp)
  rw [arr2 hsz]
  simp only [List.getElem_cons_zero, List.getElem_cons_succ] at ha hb
  generalize vs.getD 0 undef = a at ha
  generalize vs.getD 1 undef = b at hb
  cases hb with | d _ _ hb => ?_
  cases hb with | it => ?_
  cases ha with | d _ _ ha => ?_
  cases ha with | st => ?_
  refine (Tryz.strings_IndexByte ⟨s.toArray⟩ c.toNat w).mono ?_
  rintro e w' ⟨rfl, rfl⟩
  refine ⟨_, g, rfl, ?_, fun _ _ _ h => h, fun _ _ _ h => .inl h, hfz, Nat.le_refl _, fun _ _ => rfl, rfl, rfl, rfl⟩
  have : ((c.toNat : Int)).toNat.toUInt8 = c := by simp
  rw [this]
  exact .d _ _ (.it _ _)
theorem dig_ok (c : UInt8) : FnC Tryz.prog 81 [.d (.st hexD), .d (.it .u8 c.toNat)] (.d (.it .i64 (digI c))) := indexB_ok hexD c
theorem shl4 (a b : Int) (ha : 0 ≤ a ∧ a < 16) (hb : 0 ≤ b ∧ b < 16) : IntKind.i64.wrap ((BitVec.ofInt (IntKind.bits .i64) (16 * a) ||| BitVec.ofInt (IntKind.bits .i64) b).toNat : Int) = 16 * a + b := by
  have : ∀ x y : Fin 16, IntKind.i64.wrap ((BitVec.ofInt (IntKind.bits .i64) (16 * (x.val : Int)) ||| BitVec.ofInt (IntKind.bits .i64) (y.val : Int)).toNat : Int) = 16 * (x.val : Int) + (y.val : Int) := by decide +kernel
  have h := this ⟨a.toNat, by omega⟩ ⟨b.toNat, by omega⟩
  simp only [Int.toNat_of_nonneg ha.1, Int.toNat_of_nonneg hb.1] at h
  exact h
end Go.Proofs.YtijdbjjkfkjihaaGreatDoor

/- A byte of two digits. Conditions: none. -/
namespace Go.Proofs.YtijdbjjkfkjihaaGreatDoor
open Go.Sy
set_option maxRecDepth 100000
set_option linter.all false
theorem shl16 (a : Int) (h : 0 ≤ a ∧ a < 16) : IntKind.i64.wrap (a * 2 ^ (min (4 : Int).toNat (IntKind.bits .i64))) = 16 * a := by
  have : ∀ x : Fin 16, IntKind.i64.wrap ((x.val : Int) * 2 ^ (min (4 : Int).toNat (IntKind.bits .i64))) = 16 * (x.val : Int) := by decide +kernel
  have h := this ⟨a.toNat, by omega⟩
  simp only [Int.toNat_of_nonneg (show 0 ≤ a by omega)] at h
  exact h
theorem at_is {l : List UInt8} {n : Int} {x : UInt8} {K : UInt8 → Prop} (hx : l[n.toNat]? = some x) (h : K x) (h0 : 0 ≤ n ∧ n < l.length := by omega) : (0 ≤ n ∧ n < l.length) ∧ ∀ c, l[n.toNat]? = some c → K c := ⟨h0, fun c hc => by rw [hx] at hc; obtain rfl := Option.some.inj hc; exact h⟩
theorem pairS (s : List UInt8) (a b : UInt8) (h0 : s[(0 : Int).toNat]? = some a) (h1 : s[(1 : Int).toNat]? = some b) (hl : 2 ≤ s.length) (hs : s.length ≤ 1000000) :
    FnC Tryz.prog 35 [.d (.st s)] (if 0 ≤ digI a ∧ 0 ≤ digI b then .tup [.d (.it .u8 (UInt8.ofNat (16 * (digI a).toNat + (digI b).toNat)).toNat), .d (.bl !(plainB (UInt8.ofNat (16 * (digI a).toNat + (digI b).toNat))))] else .tup [.d (.it .u8 0), .d (.bl false)]) := by
  have ha := dig_ok a
  have hb := dig_ok b
  have la := dig_lt a
  have lb := dig_lt b
  by_cases hd : 0 ≤ digI a ∧ 0 ≤ digI b
  · rw [if_pos hd]
    have hp := plain_ok (UInt8.ofNat (16 * (digI a).toNat + (digI b).toNat))
    have hv : ((UInt8.ofNat (16 * (digI a).toNat + (digI b).toNat)).toNat : Int) = 16 * digI a + digI b := by
      rw [UInt8.toNat_ofNat']
      omega
    generalize UInt8.ofNat (16 * (digI a).toNat + (digI b).toNat) = v at *
    rw [hv] at hp ⊢
    generalize digI a = x at *
    generalize digI b = y at *
    refine FnC.intro ti_ok Tryz.func35 rfl Tryz.ntmps35 Tryz.call35 rfl (Nat.le_of_ble_eq_true rfl) rfl ?_
    (repeat' ((conv=>whnf);first|with_reducible refine gA ?_|with_reducible refine at_is h0 ?_ | with_reducible refine at_is h1 ?_ | refine CallP.mk ⟨_, ha, ?_⟩ | refine CallP.mk ⟨_, hb, ?_⟩ | ((with_reducible refine callE_id ?_); first | refine CallE.con ⟨_, ha, ?_⟩ | refine CallE.con ⟨_, hb, ?_⟩ | refine CallE.con ⟨_, hp, ?_⟩) | with_reducible refine LetI.eq (16 * x) (by with_unfolding_all exact shl16 x (by omega)) ?_ | with_reducible refine LetI.eq (16 * x + y) (by with_unfolding_all exact shl4 x y (by omega) (by omega)) ?_|(with_reducible first|refine gB ?_|refine gZ (fun x hx hu=>?_)|refine gY (fun x hx=>?_)|refine gE ?_|refine Both.mk ?_ ?_|refine gS (fun h=>?_) (fun h=>?_)|refine Spl.nt ?_|refine Spl.mk (fun h=>?_) (fun h=>?_))))
    all_goals rfl
  · rw [if_neg hd]
    refine FnC.intro ti_ok Tryz.func35 rfl Tryz.ntmps35 Tryz.call35 rfl (Nat.le_of_ble_eq_true rfl) rfl ?_
    (repeat' ((conv=>whnf);first|with_reducible refine gA ?_|with_reducible refine at_is h0 ?_ | with_reducible refine at_is h1 ?_ | refine CallP.mk ⟨_, ha, ?_⟩ | refine CallP.mk ⟨_, hb, ?_⟩ | ((with_reducible refine callE_id ?_); first | refine CallE.con ⟨_, ha, ?_⟩ | refine CallE.con ⟨_, hb, ?_⟩)|(with_reducible first|refine gB ?_|refine gZ (fun x hx hu=>?_)|refine gY (fun x hx=>?_)|refine gE ?_|refine Both.mk ?_ ?_|refine gS (fun h=>?_) (fun h=>?_)|refine Spl.nt ?_|refine Spl.mk (fun h=>?_) (fun h=>?_))))
    all_goals rfl
theorem pair_short (s : List UInt8) (hl : s.length < 2) : FnC Tryz.prog 35 [.d (.st s)] (.tup [.d (.it .u8 0), .d (.bl false)]) := by
  refine FnC.intro ti_ok Tryz.func35 rfl Tryz.ntmps35 Tryz.call35 rfl (Nat.le_of_ble_eq_true rfl) rfl ?_
  (repeat' ((conv=>whnf);first|with_reducible refine gA ?_|(with_reducible first|refine gB ?_|refine gZ (fun x hx hu=>?_)|refine gY (fun x hx=>?_)|refine gE ?_|refine Both.mk ?_ ?_|refine gS (fun h=>?_) (fun h=>?_)|refine Spl.nt ?_|refine Spl.mk (fun h=>?_) (fun h=>?_))))
  rfl
theorem pair_some {a b v : UInt8} {r : List UInt8} (h : pairV a b = some v) (hs : (a :: b :: r).length ≤ 1000000) : FnC Tryz.prog 35 [.d (.st (a :: b :: r))] (.tup [.d (.it .u8 v.toNat), .d (.bl true)]) := by
  have hp := pairS (a :: b :: r) a b rfl rfl (by simp) hs
  unfold pairV at h
  split at h
  · rename_i hd
    rw [if_pos hd] at hp
    split at h
    · cases h
    · rename_i hq
      obtain rfl := Option.some.inj h
      rw [Bool.eq_false_iff.2 hq] at hp
      exact hp
  · cases h
theorem pair_none {a b : UInt8} {r : List UInt8} (h : pairV a b = none) (hs : (a :: b :: r).length ≤ 1000000) : ∃ x : Nat, FnC Tryz.prog 35 [.d (.st (a :: b :: r))] (.tup [.d (.it .u8 x), .d (.bl false)]) := by
  have hp := pairS (a :: b :: r) a b rfl rfl (by simp) hs
  unfold pairV at h
  split at h
  · rename_i hd
    rw [if_pos hd] at hp
    split at h
    · rename_i hq
      rw [hq] at hp
      exact ⟨_, hp⟩
    · cases h
  · rename_i hd
    rw [if_neg hd] at hp
    exact ⟨0, hp⟩
end Go.Proofs.YtijdbjjkfkjihaaGreatDoor

/- Out of quotes. Conditions: none. -/
namespace Go.Proofs.YtijdbjjkfkjihaaGreatDoor
open Go.Sy
set_option maxRecDepth 100000
set_option linter.all false
def optV (o : Option (List UInt8)) : AV := .tup [.d (.st (o.getD [])), .d (.bl o.isSome)]
theorem unqO_eq (s : List UInt8) : unqO s = if s.head? = some 34 ∧ (s.drop 1).getLast? = some 34 then unqR (s.drop 1).dropLast else none := by
  unfold unqO
  match s with
  | [] => rfl
  | [c] => simp
  | c :: a :: r => simp [List.getLast?_cons_of_ne_nil]
def uqA (x : List UInt8 × List UInt8) : S := match x.1 with
  | [] => ⟨[(4, .d (.st x.2)), (7, .ptr 0 0)], [(0, .cells 2 [.d (.ot (.pointer none)), .nl 1]), (1, .tag 0 76)], 2⟩
  | c :: t => ⟨[(4, .d (.st x.2)), (7, .ptr 0 0)], [(0, .cells 2 [.ptr 0 0, .ts 1 (bytesD (c :: t)) 4]), (1, .tag 0 76), (4, .tail 5 true)], 5⟩
def uqI (mid : List UInt8) (x : List UInt8 × List UInt8) : Prop := unqR mid = (unqR x.2).map (x.1 ++ ·) ∧ x.1.length + x.2.length ≤ mid.length
theorem map_app (acc : List UInt8) (v : UInt8) (o : Option (List UInt8)) : (o.map (v :: ·)).map (acc ++ ·) = o.map ((acc ++ [v]) ++ ·) := by
  cases o with
  | none => rfl
  | some t => simp
theorem andg_id {a b : Int} {r : Prop} (h : (0 ≤ a ∧ a ≤ b) ∧ r) : (0 ≤ a ∧ a ≤ b) ∧ r := h
theorem cells_app {a : List UInt8} {x : UInt8} {l : List UInt8} (h : a ++ [x] = l) : Ob.cells 2 [.ptr 0 0, .ts 1 (bytesD a ++ [[D.it .u8 x.toNat]]) 4] = Ob.cells 2 [.ptr 0 0, .ts 1 (bytesD l) 4] := by rw [← h, bytesD_app]; rfl
theorem unquote_ok (s : List UInt8) (hs : s.length ≤ 100000) : FnC Tryz.prog 13 [.d (.st s)] (optV (unqO s)) := by
  have h1 := cutPC_ok 34 s
  rw [unqO_eq]
  by_cases ha : s.head? = some 34
  · rw [if_pos ha, decide_eq_true ha] at h1
    have h2 := cutSC_ok 34 (s.drop 1) (by rw [List.length_drop]; omega)
    by_cases hb : (s.drop 1).getLast? = some 34
    · rw [if_pos hb, decide_eq_true hb] at h2
      rw [if_pos ⟨ha, hb⟩]
      have hml : (s.drop 1).dropLast.length ≤ 100000 := by rw [List.length_dropLast, List.length_drop]; omega
      generalize (s.drop 1).dropLast = mid at h2 hml ⊢
      generalize s.drop 1 = s1 at h1 h2
      refine FnC.intro ti_ok Tryz.func13 rfl Tryz.ntmps13 Tryz.call13 rfl (Nat.le_of_ble_eq_true rfl) rfl ?_
      (repeat' ((conv=>whnf);first|with_reducible refine gA ?_|((with_reducible refine callE_id ?_); first | refine CallE.con ⟨_, h1, ?_⟩ | refine CallE.con ⟨_, h2, ?_⟩)|(with_reducible first|refine gB ?_|refine gZ (fun x hx hu=>?_)|refine gY (fun x hx=>?_)|refine gE ?_|refine Both.mk ?_ ?_|refine gS (fun h=>?_) (fun h=>?_)|refine Spl.nt ?_|refine Spl.mk (fun h=>?_) (fun h=>?_))))
      refine loop_rule ti_ok (uqI mid) uqA (fun x => x.2.length) ([], mid) ⟨by cases unqR mid <;> rfl, by simp⟩ ⟨And.intro rfl (And.intro rfl trivial), And.intro rfl (And.intro rfl trivial), rfl⟩ ?_
      intro ⟨acc, rest⟩ ⟨hI, hl⟩
      dsimp only at hI hl
      have hbl : (bytesD acc).length = acc.length := by simp [bytesD]
      match rest, hI, hl with
      | [], hI, hl =>
        rw [hI]
        rcases acc with _ | ⟨a0, t0⟩
        · (repeat' ((conv=>whnf);first|with_reducible refine gA ?_|with_reducible refine CallI.inl ti_ok i38 rfl ?_|(with_reducible first|refine gB ?_|refine gZ (fun x hx hu=>?_)|refine gY (fun x hx=>?_)|refine gE ?_|refine Both.mk ?_ ?_|refine gS (fun h=>?_) (fun h=>?_)|refine Spl.nt ?_|refine Spl.mk (fun h=>?_) (fun h=>?_))))
          rfl
        · (repeat' ((conv=>whnf);first|with_reducible refine gA ?_|with_reducible refine CallI.inl ti_ok i38 rfl ?_|(with_reducible first|refine gB ?_|refine gZ (fun x hx hu=>?_)|refine gY (fun x hx=>?_)|refine gE ?_|refine Both.mk ?_ ?_|refine gS (fun h=>?_) (fun h=>?_)|refine Spl.nt ?_|refine Spl.mk (fun h=>?_) (fun h=>?_))))
          refine ⟨a0 :: t0, ⟨rfl, ?_, ?_⟩, ?_⟩
          · show ((bytesD (a0 :: t0)).length : Int) = _; rw [hbl]
          · simp at hl ⊢; omega
          · show _ = AV.tup [.d (.st (a0 :: t0 ++ [])), _]
            rw [List.append_nil]; rfl
      | c :: r, hI, hl =>
        have hrl : (c :: r).length = r.length + 1 := rfl
        have hc0 : (c :: r)[(0 : Int).toNat]? = some c := rfl
        by_cases hc : c = 92
        · subst hc
          match r, hI, hl with
          | [], hI, hl =>
            rw [unqR_1] at hI
            rw [hI]
            have hp := pair_short [] (by simp)
            rcases acc with _ | ⟨a0, t0⟩
            all_goals (repeat' ((conv=>whnf);first|with_reducible refine gA ?_|with_reducible refine at_is hc0 ?_ | ((with_reducible refine callE_id ?_); refine CallE.con ⟨_, hp, ?_⟩)|(with_reducible first|refine gB ?_|refine gZ (fun x hx hu=>?_)|refine gY (fun x hx=>?_)|refine gE ?_|refine Both.mk ?_ ?_|refine gS (fun h=>?_) (fun h=>?_)|refine Spl.nt ?_|refine Spl.mk (fun h=>?_) (fun h=>?_))))
            all_goals rfl
          | [a], hI, hl =>
            rw [unqR_2] at hI
            rw [hI]
            have hp := pair_short [a] (by simp)
            rcases acc with _ | ⟨a0, t0⟩
            all_goals (repeat' ((conv=>whnf);first|with_reducible refine gA ?_|with_reducible refine at_is hc0 ?_ | ((with_reducible refine callE_id ?_); refine CallE.con ⟨_, hp, ?_⟩)|(with_reducible first|refine gB ?_|refine gZ (fun x hx hu=>?_)|refine gY (fun x hx=>?_)|refine gE ?_|refine Both.mk ?_ ?_|refine gS (fun h=>?_) (fun h=>?_)|refine Spl.nt ?_|refine Spl.mk (fun h=>?_) (fun h=>?_))))
            all_goals rfl
          | a :: b :: r', hI, hl =>
            rw [unqR_esc] at hI
            have hl3 : acc.length + (r'.length + 1 + 1 + 1) ≤ mid.length := hl
            have hll : (a :: b :: r').length = r'.length + 2 := rfl
            cases hv : pairV a b with
            | none =>
              rw [hv] at hI
              have hI : unqR mid = none := hI
              rw [hI]
              obtain ⟨x, hp⟩ := pair_none (r := r') hv (by omega)
              rcases acc with _ | ⟨a0, t0⟩
              all_goals (repeat' ((conv=>whnf);first|with_reducible refine gA ?_|with_reducible refine at_is hc0 ?_ | ((with_reducible refine callE_id ?_); refine CallE.con ⟨_, hp, ?_⟩)|(with_reducible first|refine gB ?_|refine gZ (fun x hx hu=>?_)|refine gY (fun x hx=>?_)|refine gE ?_|refine Both.mk ?_ ?_|refine gS (fun h=>?_) (fun h=>?_)|refine Spl.nt ?_|refine Spl.mk (fun h=>?_) (fun h=>?_))))
              all_goals rfl
            | some v =>
              rw [hv] at hI
              dsimp only at hI
              rw [map_app] at hI
              have hp := pair_some (r := r') hv (by omega)
              have hsl : (0 : Int) ≤ 2 ∧ (2 : Int) ≤ ((a :: b :: r').length : Int) := by omega
              rcases acc with _ | ⟨a0, t0⟩
              · (repeat' ((conv=>whnf);first|with_reducible refine gA ?_|with_reducible refine at_is hc0 ?_ | ((with_reducible refine andg_id ?_); refine And.intro hsl ?_) | ((with_reducible refine callE_id ?_); refine CallE.con ⟨_, hp, ?_⟩) | with_reducible refine CallI.inl ti_ok i37 rfl ?_ | with_reducible refine CallI.inl ti_ok i82 rfl ?_ | with_reducible refine CallI.ident noEsc (by with_unfolding_all exact rfl) ?_|(with_reducible first|refine gB ?_|refine gZ (fun x hx hu=>?_)|refine gY (fun x hx=>?_)|refine gE ?_|refine Both.mk ?_ ?_|refine gS (fun h=>?_) (fun h=>?_)|refine Spl.nt ?_|refine Spl.mk (fun h=>?_) (fun h=>?_))))
                have hI2 : uqI mid ([v], r') := ⟨hI, by show 1 + r'.length ≤ _; simp at hl3; omega⟩
                refine again ([v], r') hI2 (by dsimp only; omega) (And.intro rfl (And.intro rfl trivial)) (And.intro rfl (And.intro rfl (And.intro rfl trivial))) rfl
              · have hl4 : t0.length + 1 + (r'.length + 1 + 1 + 1) ≤ mid.length := hl3
                (repeat' ((conv=>whnf);first|with_reducible refine gA ?_|with_reducible refine at_is hc0 ?_ | ((with_reducible refine andg_id ?_); refine And.intro hsl ?_) | ((with_reducible refine callE_id ?_); refine CallE.con ⟨_, hp, ?_⟩) | with_reducible refine CallI.inl ti_ok i37 rfl ?_ | with_reducible refine CallI.inl ti_ok i82 rfl ?_ | with_reducible refine CallI.ident noEsc (by with_unfolding_all exact rfl) ?_|(with_reducible first|refine gB ?_|refine gZ (fun x hx hu=>?_)|refine gY (fun x hx=>?_)|refine gE ?_|refine Both.mk ?_ ?_|refine gS (fun h=>?_) (fun h=>?_)|refine Spl.nt ?_|refine Spl.mk (fun h=>?_) (fun h=>?_))))
                have hI2 : uqI mid (a0 :: t0 ++ [v], r') := ⟨hI, by show (a0 :: t0 ++ [v]).length + r'.length ≤ _; simp; omega⟩
                refine again (a0 :: t0 ++ [v], r') hI2 (by dsimp only; omega) (And.intro rfl (And.intro rfl trivial)) (And.intro (cells_app rfl) (And.intro rfl (And.intro rfl trivial))) rfl
        · rw [unqR_c r hc] at hI
          have hcn : c.toNat ≠ 92 := fun e => hc (UInt8.toNat_inj.1 e)
          have hp := plain_ok c
          by_cases hq : plainB c = true
          · rw [hq] at hp
            rw [if_pos hq, map_app] at hI
            have hl3 : acc.length + (r.length + 1) ≤ mid.length := hl
            rcases acc with _ | ⟨a0, t0⟩
            · (repeat' ((conv=>whnf);first|with_reducible refine gA ?_|with_reducible refine at_is hc0 ?_ | ((with_reducible refine callE_id ?_); refine CallE.con ⟨_, hp, ?_⟩) | with_reducible refine CallI.inl ti_ok i37 rfl ?_ | with_reducible refine CallI.inl ti_ok i82 rfl ?_ | with_reducible refine CallI.ident noEsc (by with_unfolding_all exact rfl) ?_|(with_reducible first|refine gB ?_|refine gZ (fun x hx hu=>?_)|refine gY (fun x hx=>?_)|refine gE ?_|refine Both.mk ?_ ?_|refine gS (fun h=>?_) (fun h=>?_)|refine Spl.nt ?_|refine Spl.mk (fun h=>?_) (fun h=>?_))))
              have hI2 : uqI mid ([c], r) := ⟨hI, by show 1 + r.length ≤ _; simp at hl3; omega⟩
              refine again ([c], r) hI2 (by dsimp only; omega) (And.intro rfl (And.intro rfl trivial)) (And.intro rfl (And.intro rfl (And.intro rfl trivial))) rfl
            · have hl4 : t0.length + 1 + (r.length + 1) ≤ mid.length := hl3
              (repeat' ((conv=>whnf);first|with_reducible refine gA ?_|with_reducible refine at_is hc0 ?_ | ((with_reducible refine callE_id ?_); refine CallE.con ⟨_, hp, ?_⟩) | with_reducible refine CallI.inl ti_ok i37 rfl ?_ | with_reducible refine CallI.inl ti_ok i82 rfl ?_ | with_reducible refine CallI.ident noEsc (by with_unfolding_all exact rfl) ?_|(with_reducible first|refine gB ?_|refine gZ (fun x hx hu=>?_)|refine gY (fun x hx=>?_)|refine gE ?_|refine Both.mk ?_ ?_|refine gS (fun h=>?_) (fun h=>?_)|refine Spl.nt ?_|refine Spl.mk (fun h=>?_) (fun h=>?_))))
              have hI2 : uqI mid (a0 :: t0 ++ [c], r) := ⟨hI, by show (a0 :: t0 ++ [c]).length + r.length ≤ _; simp; omega⟩
              refine again (a0 :: t0 ++ [c], r) hI2 (by dsimp only; omega) (And.intro rfl (And.intro rfl trivial)) (And.intro (cells_app rfl) (And.intro rfl (And.intro rfl trivial))) rfl
          · rw [Bool.eq_false_iff.2 hq] at hp
            rw [if_neg hq] at hI
            have hI : unqR mid = none := hI
            rw [hI]
            rcases acc with _ | ⟨a0, t0⟩
            all_goals (repeat' ((conv=>whnf);first|with_reducible refine gA ?_|with_reducible refine at_is hc0 ?_ | ((with_reducible refine callE_id ?_); refine CallE.con ⟨_, hp, ?_⟩)|(with_reducible first|refine gB ?_|refine gZ (fun x hx hu=>?_)|refine gY (fun x hx=>?_)|refine gE ?_|refine Both.mk ?_ ?_|refine gS (fun h=>?_) (fun h=>?_)|refine Spl.nt ?_|refine Spl.mk (fun h=>?_) (fun h=>?_))))
            all_goals rfl
    · rw [if_neg hb, decide_eq_false hb] at h2
      rw [if_neg fun q => hb q.2]
      generalize s.drop 1 = s1 at h1 h2
      refine FnC.intro ti_ok Tryz.func13 rfl Tryz.ntmps13 Tryz.call13 rfl (Nat.le_of_ble_eq_true rfl) rfl ?_
      (repeat' ((conv=>whnf);first|with_reducible refine gA ?_|((with_reducible refine callE_id ?_); first | refine CallE.con ⟨_, h1, ?_⟩ | refine CallE.con ⟨_, h2, ?_⟩)|(with_reducible first|refine gB ?_|refine gZ (fun x hx hu=>?_)|refine gY (fun x hx=>?_)|refine gE ?_|refine Both.mk ?_ ?_|refine gS (fun h=>?_) (fun h=>?_)|refine Spl.nt ?_|refine Spl.mk (fun h=>?_) (fun h=>?_))))
      rfl
  · rw [if_neg ha, decide_eq_false ha] at h1
    rw [if_neg fun q => ha q.1]
    have h2 := cutSC_ok 34 s (by omega)
    generalize (if s.getLast? = some 34 then s.dropLast else s) = s2 at h2
    refine FnC.intro ti_ok Tryz.func13 rfl Tryz.ntmps13 Tryz.call13 rfl (Nat.le_of_ble_eq_true rfl) rfl ?_
    (repeat' ((conv=>whnf);first|with_reducible refine gA ?_|((with_reducible refine callE_id ?_); first | refine CallE.con ⟨_, h1, ?_⟩ | refine CallE.con ⟨_, h2, ?_⟩)|(with_reducible first|refine gB ?_|refine gZ (fun x hx hu=>?_)|refine gY (fun x hx=>?_)|refine gE ?_|refine Both.mk ?_ ?_|refine gS (fun h=>?_) (fun h=>?_)|refine Spl.nt ?_|refine Spl.mk (fun h=>?_) (fun h=>?_))))
    rfl
end Go.Proofs.YtijdbjjkfkjihaaGreatDoor

/- The node of a line. Conditions: none. -/
namespace Go.Proofs.YtijdbjjkfkjihaaGreatDoor
open Go.Sy
set_option maxRecDepth 100000
set_option linter.all false
theorem cut_len {c : UInt8} {s p : List UInt8} {q : Option (List UInt8)} (h : cutC c s = (p, q)) : p.length ≤ s.length ∧ (q.getD []).length ≤ s.length := by
  cases q with
  | none => rw [cutC_none h]; exact ⟨Nat.le_refl _, Nat.zero_le _⟩
  | some q => rw [cutC_some h, List.length_append, List.length_cons]; exact ⟨by omega, by show q.length ≤ _; omega⟩
theorem unq_len {s t : List UInt8} (h : unqO s = some t) : t.length ≤ s.length := by
  have h := congrArg List.length (quote_unq h)
  have key : ∀ l : List UInt8, l.length ≤ (l.flatMap signQ).length := by
    intro l
    induction l with
    | nil => exact Nat.le_refl _
    | cons a l ih =>
      have : 1 ≤ (signQ a).length := by unfold signQ; split <;> simp
      rw [List.flatMap_cons, List.length_append, List.length_cons]; omega
  have := key t
  unfold quoteS at h
  rw [List.length_cons, List.length_append] at h
  omega
/-- The node that is built of a line. -/
def nodeY (s : List UInt8) : Nod := match (cutC 32 s).2 with
  | some q => ⟨(cutC 32 s).1, false, (unqO q).getD []⟩
  | none => ⟨if (cutC 32 s).1.getLast? = some 47 then (cutC 32 s).1.dropLast else (cutC 32 s).1, true, []⟩
theorem nodeY_eq {s : List UInt8} {x : Nod} (h : nodeO s = some x) : nodeY s = x := by
  unfold nodeO at h
  unfold nodeY
  rcases hc : cutC 32 s with ⟨p, q⟩
  rw [hc] at h
  cases q with
  | none =>
    dsimp only at h ⊢
    split at h
    · rename_i hp
      rw [if_pos hp.1]; exact Option.some.inj h
    · cases h
  | some q =>
    dsimp only at h ⊢
    cases hu : unqO q with
    | none => rw [hu] at h; cases h
    | some t =>
      rw [hu] at h
      dsimp only at h
      split at h
      · exact Option.some.inj h
      · cases h
theorem isS_if {α : Type} (b : Bool) (x : α) : b = (if b = true then some x else none).isSome := by cases b <;> rfl
theorem isS_if2 {α : Type} {p : Prop} [Decidable p] (hp : p) (b : Bool) (x : α) : b = (if p ∧ b = true then some x else none).isSome := by cases b <;> simp [hp]
theorem isS_if3 {α : Type} {p : Prop} [Decidable p] (hp : ¬ p) (b : Bool) (x : α) : (if p ∧ b = true then some x else none).isSome = false := by rw [if_neg fun q => hp q.1]; rfl
def ndT : Tr := (.cons 0 (.cons 1 (.cons 2 (.cons 3 (.cons 4 (.cons 5 (.cons 6 .nil .nil) .nil) (.cons 5 (.cons 4 (.cons 6 .nil .nil) .nil) .nil)) .nil) .nil) .nil) (.cons 1 (.cons 0 (.cons 2 (.cons 3 (.cons 4 (.cons 5 (.cons 6 .nil .nil) .nil) (.cons 5 (.cons 4 (.cons 6 .nil .nil) .nil) .nil)) .nil) .nil) (.cons 2 (.cons 0 (.cons 3 (.cons 4 (.cons 5 (.cons 6 .nil .nil) .nil) (.cons 5 (.cons 4 (.cons 6 .nil .nil) .nil) .nil)) .nil) (.cons 3 (.cons 0 (.cons 4 (.cons 5 (.cons 6 .nil .nil) .nil) (.cons 5 (.cons 4 (.cons 6 .nil .nil) .nil) .nil)) (.cons 4 (.cons 0 (.cons 5 (.cons 6 .nil .nil) .nil) .nil) .nil)) .nil)) .nil)) .nil))
theorem tupB {x : AV} {a b : Bool} (h : a = b) : AV.tup [x, .d (.bl a)] = AV.tup [x, .d (.bl b)] := by rw [h]
theorem node_ok (s : List UInt8) (hs : s.length ≤ 100000) : FnC Tryz.prog 46 [.d (.st s)] (.tup [.dg 3 (encN (nodeY s)), .d (.bl (nodeO s).isSome)]) := by
  have h1 := cutC_ok 32 s (by omega)
  unfold nodeY nodeO
  rcases hc : cutC 32 s with ⟨p, q⟩
  have hl := cut_len hc
  rw [hc] at h1
  cases q with
  | some q =>
    dsimp only
    have hq : q.length ≤ s.length := hl.2
    have h2 := unquote_ok q (by omega)
    cases hu : unqO q with
    | none =>
      rw [hu] at h2
      dsimp only [Option.getD_none, Option.isSome_none]
      refine FnC.intro ti_ok Tryz.func46 rfl Tryz.ntmps46 Tryz.call46 rfl (Nat.le_of_ble_eq_true rfl) rfl ?_
      (repeat' ((conv=>whnf);first|with_reducible refine gA ?_|((with_reducible refine callE_id ?_); first | refine CallE.con ⟨_, h1, ?_⟩ | refine CallE.con ⟨_, h2, ?_⟩) | with_reducible refine draw_htree ti_ok mixed [1] ndT (by decide +kernel) ?_ | with_reducible exact trivial | with_reducible refine Br.mk ?_ ?_|(with_reducible first|refine gB ?_|refine gZ (fun x hx hu=>?_)|refine gY (fun x hx=>?_)|refine gE ?_|refine Both.mk ?_ ?_|refine gS (fun h=>?_) (fun h=>?_)|refine Spl.nt ?_|refine Spl.mk (fun h=>?_) (fun h=>?_))))
      all_goals rfl
    | some t =>
      rw [hu] at h2
      dsimp only [Option.getD_some]
      have h3 := vmay_ok ⟨p, false, t⟩ (by dsimp only; omega)
      refine FnC.intro ti_ok Tryz.func46 rfl Tryz.ntmps46 Tryz.call46 rfl (Nat.le_of_ble_eq_true rfl) rfl ?_
      (repeat' ((conv=>whnf);first|with_reducible refine gA ?_|((with_reducible refine callE_id ?_); first | refine CallE.con ⟨_, h1, ?_⟩ | refine CallE.con ⟨_, h2, ?_⟩ | refine CallE.con ⟨_, h3, ?_⟩) | refine CallP.mk ⟨_, h3, ?_⟩ | with_reducible refine draw_htree ti_ok mixed [1] ndT (by decide +kernel) ?_ | with_reducible exact trivial | with_reducible refine Br.mk ?_ ?_|(with_reducible first|refine gB ?_|refine gZ (fun x hx hu=>?_)|refine gY (fun x hx=>?_)|refine gE ?_|refine Both.mk ?_ ?_|refine gS (fun h=>?_) (fun h=>?_)|refine Spl.nt ?_|refine Spl.mk (fun h=>?_) (fun h=>?_))))
      all_goals exact tupB (isS_if _ _)
  | none =>
    dsimp only
    have h2 := cutSC_ok 47 p (by omega)
    have hpl : (if p.getLast? = some 47 then p.dropLast else p).length ≤ p.length := by split <;> simp
    by_cases hp : p.getLast? = some 47
    · rw [if_pos hp, decide_eq_true hp] at h2
      rw [if_pos hp] at hpl ⊢
      have h3 := vmay_ok ⟨p.dropLast, true, []⟩ (by dsimp only; omega)
      refine FnC.intro ti_ok Tryz.func46 rfl Tryz.ntmps46 Tryz.call46 rfl (Nat.le_of_ble_eq_true rfl) rfl ?_
      (repeat' ((conv=>whnf);first|with_reducible refine gA ?_|((with_reducible refine callE_id ?_); first | refine CallE.con ⟨_, h1, ?_⟩ | refine CallE.con ⟨_, h2, ?_⟩ | refine CallE.con ⟨_, h3, ?_⟩) | refine CallP.mk ⟨_, h3, ?_⟩ | with_reducible refine draw_htree ti_ok mixed [1] ndT (by decide +kernel) ?_ | with_reducible exact trivial | with_reducible refine Br.mk ?_ ?_|(with_reducible first|refine gB ?_|refine gZ (fun x hx hu=>?_)|refine gY (fun x hx=>?_)|refine gE ?_|refine Both.mk ?_ ?_|refine gS (fun h=>?_) (fun h=>?_)|refine Spl.nt ?_|refine Spl.mk (fun h=>?_) (fun h=>?_))))
      all_goals exact tupB (isS_if2 hp _ _)
    · rw [if_neg hp, decide_eq_false hp] at h2
      rw [if_neg hp] at hpl ⊢
      refine FnC.intro ti_ok Tryz.func46 rfl Tryz.ntmps46 Tryz.call46 rfl (Nat.le_of_ble_eq_true rfl) rfl ?_
      (repeat' ((conv=>whnf);first|with_reducible refine gA ?_|((with_reducible refine callE_id ?_); first | refine CallE.con ⟨_, h1, ?_⟩ | refine CallE.con ⟨_, h2, ?_⟩) | with_reducible refine draw_htree ti_ok mixed [1] ndT (by decide +kernel) ?_ | with_reducible exact trivial | with_reducible refine Br.mk ?_ ?_|(with_reducible first|refine gB ?_|refine gZ (fun x hx hu=>?_)|refine gY (fun x hx=>?_)|refine gE ?_|refine Both.mk ?_ ?_|refine gS (fun h=>?_) (fun h=>?_)|refine Spl.nt ?_|refine Spl.mk (fun h=>?_) (fun h=>?_))))
      all_goals exact tupB (isS_if3 hp _ _).symm
end Go.Proofs.YtijdbjjkfkjihaaGreatDoor

/- A text as nodes; nodes as text. Conditions: none. -/
namespace Go.Proofs.YtijdbjjkfkjihaaGreatDoor
open Go.Sy
set_option maxRecDepth 100000
set_option linter.all false
def readA (o : Option (List Nod)) : AV := .tup [.d (.fs 3 ((o.getD []).map encN)), .d (.bl o.isSome)]
def rdI (s : List UInt8) (x : List Nod × List UInt8) : Prop := readN s = (readN x.2).map (x.1 ++ ·) ∧ x.1.length + x.2.length ≤ s.length
def rdSt (x : List Nod × List UInt8) : S := ⟨[(0, .d (.st x.2)), (4, .ts 3 (x.1.map encN) 1)], [(1, .tail 35 true)], 2⟩
theorem map_appN (acc : List Nod) (v : Nod) (o : Option (List Nod)) : (o.map (v :: ·)).map (acc ++ ·) = o.map ((acc ++ [v]) ++ ·) := by
  cases o with
  | none => rfl
  | some t => simp
theorem tsN {a b : List (List D)} {n : Nat} (h : a = b) : AV.ts 3 a n = AV.ts 3 b n := by rw [h]
theorem vread_ok (s : List UInt8) (hs : s.length ≤ 100000) : FnC Tryz.prog 17 [.d (.st s)] (readA (readN s)) := by
  refine FnC.intro ti_ok Tryz.func17 rfl Tryz.ntmps17 Tryz.call17 rfl (Nat.le_of_ble_eq_true rfl) rfl ?_
  (repeat' ((conv=>whnf);first|with_reducible refine gA ?_|(with_reducible first|refine gB ?_|refine gZ (fun x hx hu=>?_)|refine gY (fun x hx=>?_)|refine gE ?_|refine Both.mk ?_ ?_|refine gS (fun h=>?_) (fun h=>?_)|refine Spl.nt ?_|refine Spl.mk (fun h=>?_) (fun h=>?_))))
  refine loop_rule ti_ok (rdI s) rdSt (fun x => x.2.length) ([], s) ⟨by cases readN s <;> rfl, by simp⟩ ⟨And.intro rfl (And.intro rfl trivial), And.intro rfl trivial, rfl⟩ ?_
  intro ⟨acc, r⟩ ⟨hI, hl⟩
  dsimp only at hI hl
  have hal : (acc.map encN).length = acc.length := List.length_map ..
  match r, hI, hl with
  | [], hI, hl =>
    rw [hI]
    (repeat' ((conv=>whnf);first|with_reducible refine gA ?_|(with_reducible first|refine gB ?_|refine gZ (fun x hx hu=>?_)|refine gY (fun x hx=>?_)|refine gE ?_|refine Both.mk ?_ ?_|refine gS (fun h=>?_) (fun h=>?_)|refine Spl.nt ?_|refine Spl.mk (fun h=>?_) (fun h=>?_))))
    show _ = AV.tup [.d (.fs 3 ((acc ++ []).map encN)), .d (.bl true)]
    rw [List.append_nil]
  | c :: t, hI, hl =>
    have h1 := cutC_ok 10 (c :: t) (by omega)
    rcases hc : cutC 10 (c :: t) with ⟨line, rest⟩
    have hcl := cut_len hc
    rw [hc] at h1
    have h2 := node_ok line (by omega)
    cases rest with
    | none =>
      rw [readN_none (by simp) hc] at hI
      have hI : readN s = none := hI
      rw [hI]
      cases hn : (nodeO line).isSome with
      | false =>
        rw [hn] at h2
        (repeat' ((conv=>whnf);first|with_reducible refine gA ?_|((with_reducible refine callE_id ?_); first | refine CallE.con ⟨_, h1, ?_⟩ | refine CallE.con ⟨_, h2, ?_⟩)|(with_reducible first|refine gB ?_|refine gZ (fun x hx hu=>?_)|refine gY (fun x hx=>?_)|refine gE ?_|refine Both.mk ?_ ?_|refine gS (fun h=>?_) (fun h=>?_)|refine Spl.nt ?_|refine Spl.mk (fun h=>?_) (fun h=>?_))))
        rfl
      | true =>
        rw [hn] at h2
        (repeat' ((conv=>whnf);first|with_reducible refine gA ?_|((with_reducible refine callE_id ?_); first | refine CallE.con ⟨_, h1, ?_⟩ | refine CallE.con ⟨_, h2, ?_⟩)|(with_reducible first|refine gB ?_|refine gZ (fun x hx hu=>?_)|refine gY (fun x hx=>?_)|refine gE ?_|refine Both.mk ?_ ?_|refine gS (fun h=>?_) (fun h=>?_)|refine Spl.nt ?_|refine Spl.mk (fun h=>?_) (fun h=>?_))))
        rfl
    | some rest =>
      rw [readN_some hc] at hI
      have hcs := congrArg List.length (cutC_some hc)
      rw [List.length_append, List.length_cons, List.length_cons] at hcs
      have hl2 : acc.length + (t.length + 1) ≤ s.length := hl
      cases hn : nodeO line with
      | none =>
        rw [hn] at h2 hI
        have hI : readN s = none := hI
        rw [hI]
        (repeat' ((conv=>whnf);first|with_reducible refine gA ?_|((with_reducible refine callE_id ?_); first | refine CallE.con ⟨_, h1, ?_⟩ | refine CallE.con ⟨_, h2, ?_⟩)|(with_reducible first|refine gB ?_|refine gZ (fun x hx hu=>?_)|refine gY (fun x hx=>?_)|refine gE ?_|refine Both.mk ?_ ?_|refine gS (fun h=>?_) (fun h=>?_)|refine Spl.nt ?_|refine Spl.mk (fun h=>?_) (fun h=>?_))))
        rfl
      | some x =>
        have hy := nodeY_eq hn
        rw [hn, hy] at h2
        rw [hn] at hI
        dsimp only at hI
        rw [map_appN] at hI
        (repeat' ((conv=>whnf);first|with_reducible refine gA ?_|((with_reducible refine callE_id ?_); first | refine CallE.con ⟨_, h1, ?_⟩ | refine CallE.con ⟨_, h2, ?_⟩)|(with_reducible first|refine gB ?_|refine gZ (fun x hx hu=>?_)|refine gY (fun x hx=>?_)|refine gE ?_|refine Both.mk ?_ ?_|refine gS (fun h=>?_) (fun h=>?_)|refine Spl.nt ?_|refine Spl.mk (fun h=>?_) (fun h=>?_))))
        have hI2 : rdI s (acc ++ [x], rest) := ⟨hI, by show (acc ++ [x]).length + rest.length ≤ _; rw [List.length_append, List.length_singleton]; omega⟩
        refine again (acc ++ [x], rest) hI2 (by show rest.length < t.length + 1; omega) (And.intro rfl (And.intro (tsN (by rw [List.map_append]; rfl)) trivial)) (And.intro rfl trivial) rfl
def okN (l : List Nod) : Prop := ∀ x ∈ l, x.p.length ≤ 1000 ∧ x.x.length ≤ 1000
theorem quoteS_len (s : List UInt8) : (quoteS s).length ≤ 3 * s.length + 2 := by
  have h := qAcc_len s s.length
  unfold qAcc at h
  rw [List.take_length, List.length_cons] at h
  unfold quoteS
  rw [List.length_cons, List.length_append, List.length_singleton]; omega
theorem vline_len {x : Nod} (h : x.p.length ≤ 1000 ∧ x.x.length ≤ 1000) : (vline x).length ≤ 4004 := by
  have := quoteS_len x.x
  unfold vline
  split <;> simp only [List.length_append, List.length_cons, List.length_nil] <;> omega
theorem showN_len : ∀ {l : List Nod}, okN l → (showN l).length ≤ 4004 * l.length
  | [], _ => by simp [showN]
  | x :: l, h => by
    have h1 := vline_len (h x List.mem_cons_self)
    have h2 := showN_len (l := l) fun y hy => h y (List.mem_cons_of_mem _ hy)
    show (vline x ++ showN l).length ≤ _
    rw [List.length_append, List.length_cons]; omega
theorem showN_take {l : List Nod} {k : Nat} {c : Nod} (h : l[k]? = some c) : showN (l.take (k + 1)) = showN (l.take k) ++ vline c := by
  unfold showN; rw [take_snoc h, List.flatMap_append]; simp
def showV (l : List Nod) : AV := .tup [.d (.st (if l.all mayB = true then showN l else [])), .d (.bl (l.all mayB))]
def swB (l : List Nod) (k : Nat) : List (Nat × AV) := [(4, .ptr 0 0), (7, .d (.fs 3 (l.map encN))), (8, .d (.it .i64 l.length)), (9, .d (.it .i64 k))]
def swA (l : List Nod) : Nat → S
  | 0 => ⟨swB l 0, [(0, .cells 2 [.d (.ot (.pointer none)), .nl 1]), (1, .tag 0 76)], 2⟩
  | k + 1 => ⟨swB l (k + 1), [(0, .cells 2 [.ptr 0 0, .ts 1 (bytesD (showN (l.take (k + 1)))) 6]), (1, .tag 0 76), (6, .tail 5 true)], 7⟩
theorem cells_s0 {x y : List UInt8} (h : x = y) : Ob.cells 2 [.ptr 0 0, .ts 1 (bytesD x) 6] = Ob.cells 2 [.ptr 0 0, .ts 1 (bytesD y) 6] := by rw [h]
theorem cells_s1 {x y z : List UInt8} (h : x ++ y = z) : Ob.cells 2 [.ptr 0 0, .ts 1 (bytesD x ++ bytesD y) 6] = Ob.cells 2 [.ptr 0 0, .ts 1 (bytesD z) 6] := by rw [← h, bytesD_app]
theorem vshow_ok (l : List Nod) (ho : okN l) (hl4 : l.length ≤ 1000) : FnC Tryz.prog 15 [.d (.fs 3 (l.map encN))] (showV l) := by
  refine FnC.intro ti_ok Tryz.func15 rfl Tryz.ntmps15 Tryz.call15 rfl (Nat.le_of_ble_eq_true rfl) rfl ?_
  have hl' : ((l.map encN).length : Int) = l.length := by rw [List.length_map]
  (repeat' ((conv=>whnf);first|with_reducible refine gA ?_|(with_reducible first|refine gB ?_|refine gZ (fun x hx hu=>?_)|refine gY (fun x hx=>?_)|refine gE ?_|refine Both.mk ?_ ?_|refine gS (fun h=>?_) (fun h=>?_)|refine Spl.nt ?_|refine Spl.mk (fun h=>?_) (fun h=>?_))))
  refine loop_rule ti_ok (fun k : Nat => k ≤ l.length ∧ (l.take k).all mayB = true) (swA l) (fun k => l.length - k) 0 ⟨Nat.zero_le _, rfl⟩ ⟨And.intro rfl (And.intro rfl (And.intro (it_eq hl') (And.intro rfl trivial))), And.intro rfl (And.intro rfl trivial), rfl⟩ ?_
  intro k ⟨k1, k2⟩
  have hs := showN_len (l := l.take k) fun x hx => ho x (List.mem_of_mem_take hx)
  have htl : (l.take k).length ≤ k := List.length_take_le ..
  rcases Nat.lt_or_ge k l.length with hkl | hkl
  · obtain ⟨c, hc⟩ := lt_get hkl
    have hcb := ho c (List.mem_of_getElem? hc)
    have hm := vmay_ok c (by omega)
    have hq := quote_ok c.x (by omega)
    have hql := quoteS_len c.x
    have e0 := showN_take hc
    by_cases hb : mayB c = true
    · rw [hb] at hm
      have k3 : (l.take (k + 1)).all mayB = true := by rw [all_snocX hc, k2, hb]; rfl
      obtain ⟨p, d, x⟩ := c
      dsimp only at hcb hq hql
      cases d with
      | true =>
        match k with
        | 0 =>
          (repeat' ((conv=>whnf);first|with_reducible refine gA ?_|with_reducible refine at_known hc ?_ | ((with_reducible refine callE_id ?_); first | refine CallE.con ⟨_, hm, ?_⟩ | refine CallE.con ⟨_, hq, ?_⟩) | refine CallP.mk ⟨_, hq, ?_⟩ | with_reducible refine CallI.inl ti_ok i42 rfl ?_ | with_reducible refine CallI.inl ti_ok i82 rfl ?_ | with_reducible refine CallI.ident noEsc (by with_unfolding_all exact rfl) ?_ | with_reducible refine CallI.inl ti_ok i38 rfl ?_|(with_reducible first|refine gB ?_|refine gZ (fun x hx hu=>?_)|refine gY (fun x hx=>?_)|refine gE ?_|refine Both.mk ?_ ?_|refine gS (fun h=>?_) (fun h=>?_)|refine Spl.nt ?_|refine Spl.mk (fun h=>?_) (fun h=>?_))))
          refine again (0 + 1) ⟨by omega, k3⟩ (by dsimp only; omega) (And.intro rfl (And.intro rfl (And.intro rfl (And.intro rfl trivial)))) (And.intro (cells_s0 ?_) (And.intro rfl (And.intro rfl trivial))) rfl
          rw [e0]; show _ = [] ++ vline _
          simp [vline]
        | k + 1 =>
          have hbl : (bytesD (showN (l.take (k + 1)))).length = (showN (l.take (k + 1))).length := by simp [bytesD]
          (repeat' ((conv=>whnf);first|with_reducible refine gA ?_|with_reducible refine at_known hc ?_ | ((with_reducible refine callE_id ?_); first | refine CallE.con ⟨_, hm, ?_⟩ | refine CallE.con ⟨_, hq, ?_⟩) | refine CallP.mk ⟨_, hq, ?_⟩ | with_reducible refine CallI.inl ti_ok i42 rfl ?_ | with_reducible refine CallI.inl ti_ok i82 rfl ?_ | with_reducible refine CallI.ident noEsc (by with_unfolding_all exact rfl) ?_ | with_reducible refine CallI.inl ti_ok i38 rfl ?_|(with_reducible first|refine gB ?_|refine gZ (fun x hx hu=>?_)|refine gY (fun x hx=>?_)|refine gE ?_|refine Both.mk ?_ ?_|refine gS (fun h=>?_) (fun h=>?_)|refine Spl.nt ?_|refine Spl.mk (fun h=>?_) (fun h=>?_))))
          refine again (k + 1 + 1) ⟨by omega, k3⟩ (by dsimp only; omega) (And.intro rfl (And.intro rfl (And.intro rfl (And.intro rfl trivial)))) (And.intro (cells_s1 ?_) (And.intro rfl (And.intro rfl trivial))) rfl
          rw [e0]; refine congrArg _ ?_
          simp [vline]
      | false =>
        match k with
        | 0 =>
          (repeat' ((conv=>whnf);first|with_reducible refine gA ?_|with_reducible refine at_known hc ?_ | ((with_reducible refine callE_id ?_); first | refine CallE.con ⟨_, hm, ?_⟩ | refine CallE.con ⟨_, hq, ?_⟩) | refine CallP.mk ⟨_, hq, ?_⟩ | with_reducible refine CallI.inl ti_ok i42 rfl ?_ | with_reducible refine CallI.inl ti_ok i82 rfl ?_ | with_reducible refine CallI.ident noEsc (by with_unfolding_all exact rfl) ?_ | with_reducible refine CallI.inl ti_ok i38 rfl ?_|(with_reducible first|refine gB ?_|refine gZ (fun x hx hu=>?_)|refine gY (fun x hx=>?_)|refine gE ?_|refine Both.mk ?_ ?_|refine gS (fun h=>?_) (fun h=>?_)|refine Spl.nt ?_|refine Spl.mk (fun h=>?_) (fun h=>?_))))
          refine again (0 + 1) ⟨by omega, k3⟩ (by dsimp only; omega) (And.intro rfl (And.intro rfl (And.intro rfl (And.intro rfl trivial)))) (And.intro (cells_s0 ?_) (And.intro rfl (And.intro rfl trivial))) rfl
          rw [e0]; show _ = [] ++ vline _
          simp [vline]
        | k + 1 =>
          have hbl : (bytesD (showN (l.take (k + 1)))).length = (showN (l.take (k + 1))).length := by simp [bytesD]
          (repeat' ((conv=>whnf);first|with_reducible refine gA ?_|with_reducible refine at_known hc ?_ | ((with_reducible refine callE_id ?_); first | refine CallE.con ⟨_, hm, ?_⟩ | refine CallE.con ⟨_, hq, ?_⟩) | refine CallP.mk ⟨_, hq, ?_⟩ | with_reducible refine CallI.inl ti_ok i42 rfl ?_ | with_reducible refine CallI.inl ti_ok i82 rfl ?_ | with_reducible refine CallI.ident noEsc (by with_unfolding_all exact rfl) ?_ | with_reducible refine CallI.inl ti_ok i38 rfl ?_|(with_reducible first|refine gB ?_|refine gZ (fun x hx hu=>?_)|refine gY (fun x hx=>?_)|refine gE ?_|refine Both.mk ?_ ?_|refine gS (fun h=>?_) (fun h=>?_)|refine Spl.nt ?_|refine Spl.mk (fun h=>?_) (fun h=>?_))))
          refine again (k + 1 + 1) ⟨by omega, k3⟩ (by dsimp only; omega) (And.intro rfl (And.intro rfl (And.intro rfl (And.intro rfl trivial)))) (And.intro (cells_s1 ?_) (And.intro rfl (And.intro rfl trivial))) rfl
          rw [e0]; refine congrArg _ ?_
          simp [vline]
    · rw [Bool.eq_false_iff.2 hb] at hm
      have hbad : l.all mayB = false := not_allX hc (Bool.eq_false_iff.2 hb)
      unfold showV
      rw [hbad]
      match k with
      | 0 =>
        (repeat' ((conv=>whnf);first|with_reducible refine gA ?_|with_reducible refine at_known hc ?_ | ((with_reducible refine callE_id ?_); first | refine CallE.con ⟨_, hm, ?_⟩ | refine CallE.con ⟨_, hq, ?_⟩) | refine CallP.mk ⟨_, hq, ?_⟩ | with_reducible refine CallI.inl ti_ok i42 rfl ?_ | with_reducible refine CallI.inl ti_ok i82 rfl ?_ | with_reducible refine CallI.ident noEsc (by with_unfolding_all exact rfl) ?_ | with_reducible refine CallI.inl ti_ok i38 rfl ?_|(with_reducible first|refine gB ?_|refine gZ (fun x hx hu=>?_)|refine gY (fun x hx=>?_)|refine gE ?_|refine Both.mk ?_ ?_|refine gS (fun h=>?_) (fun h=>?_)|refine Spl.nt ?_|refine Spl.mk (fun h=>?_) (fun h=>?_))))
        rfl
      | k + 1 =>
        (repeat' ((conv=>whnf);first|with_reducible refine gA ?_|with_reducible refine at_known hc ?_ | ((with_reducible refine callE_id ?_); first | refine CallE.con ⟨_, hm, ?_⟩ | refine CallE.con ⟨_, hq, ?_⟩) | refine CallP.mk ⟨_, hq, ?_⟩ | with_reducible refine CallI.inl ti_ok i42 rfl ?_ | with_reducible refine CallI.inl ti_ok i82 rfl ?_ | with_reducible refine CallI.ident noEsc (by with_unfolding_all exact rfl) ?_ | with_reducible refine CallI.inl ti_ok i38 rfl ?_|(with_reducible first|refine gB ?_|refine gZ (fun x hx hu=>?_)|refine gY (fun x hx=>?_)|refine gE ?_|refine Both.mk ?_ ?_|refine gS (fun h=>?_) (fun h=>?_)|refine Spl.nt ?_|refine Spl.mk (fun h=>?_) (fun h=>?_))))
        rfl
  · have hkl2 : l.take k = l := List.take_of_length_le (by omega)
    rw [hkl2] at k2 hs
    unfold showV
    rw [k2]
    match k with
    | 0 =>
      have hl0 : l = [] := List.length_eq_zero_iff.1 (by omega)
      subst hl0
      (repeat' ((conv=>whnf);first|with_reducible refine gA ?_|with_reducible refine CallI.inl ti_ok i42 rfl ?_ | with_reducible refine CallI.inl ti_ok i82 rfl ?_ | with_reducible refine CallI.ident noEsc (by with_unfolding_all exact rfl) ?_ | with_reducible refine CallI.inl ti_ok i38 rfl ?_|(with_reducible first|refine gB ?_|refine gZ (fun x hx hu=>?_)|refine gY (fun x hx=>?_)|refine gE ?_|refine Both.mk ?_ ?_|refine gS (fun h=>?_) (fun h=>?_)|refine Spl.nt ?_|refine Spl.mk (fun h=>?_) (fun h=>?_))))
      rfl
    | k + 1 =>
      (repeat' ((conv=>whnf);first|with_reducible refine gA ?_|with_reducible refine CallI.inl ti_ok i42 rfl ?_ | with_reducible refine CallI.inl ti_ok i82 rfl ?_ | with_reducible refine CallI.ident noEsc (by with_unfolding_all exact rfl) ?_ | with_reducible refine CallI.inl ti_ok i38 rfl ?_|(with_reducible first|refine gB ?_|refine gZ (fun x hx hu=>?_)|refine gY (fun x hx=>?_)|refine gE ?_|refine Both.mk ?_ ?_|refine gS (fun h=>?_) (fun h=>?_)|refine Spl.nt ?_|refine Spl.mk (fun h=>?_) (fun h=>?_))))
      have hbl : (bytesD (showN l)).length = (showN l).length := by simp [bytesD]
      refine ⟨showN l, ⟨?_, ?_, ?_⟩, rfl⟩
      · show bytesD (showN (l.take (k + 1))) = _; rw [hkl2]
      · show ((bytesD (showN (l.take (k + 1)))).length : Int) = _; rw [hkl2, hbl]
      · omega
end Go.Proofs.YtijdbjjkfkjihaaGreatDoor

/- Texts in quotes, by the document's answer. Conditions: none. -/
namespace Go.Proofs.YtijdbjjkfkjihaaGreatDoor
open Go.Sy
set_option maxRecDepth 100000
set_option linter.all false
end Go.Proofs.YtijdbjjkfkjihaaGreatDoor

/- Out of quotes, by the document's answer. Conditions: none. -/
namespace Go.Proofs.YtijdbjjkfkjihaaGreatDoor
open Go.Sy
set_option maxRecDepth 100000
set_option linter.all false
end Go.Proofs.YtijdbjjkfkjihaaGreatDoor

/- A text as nodes, by the document's answer. Conditions: none. -/
namespace Go.Proofs.YtijdbjjkfkjihaaGreatDoor
open Go.Sy
set_option maxRecDepth 100000
set_option linter.all false
end Go.Proofs.YtijdbjjkfkjihaaGreatDoor
