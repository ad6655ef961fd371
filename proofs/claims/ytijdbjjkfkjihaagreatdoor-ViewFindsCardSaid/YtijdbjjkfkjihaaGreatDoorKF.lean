/- Contracts of the functions that the law reaches, and the law. Conditions: none. -/
import Derived.Test.YtijdbjjkfkjihaaGreatDoorKC
import Derived.Test.YtijdbjjkfkjihaaGreatDoorSC
set_option linter.all false
/- Texts cut at a byte; a byte of two digits. Conditions: none. -/
namespace Go.Proofs.YtijdbjjkfkjihaaGreatDoor
open Go.Sy
set_option maxRecDepth 100000
set_option linter.all false
end Go.Proofs.YtijdbjjkfkjihaaGreatDoor

/- A byte of two digits. Conditions: none. -/
namespace Go.Proofs.YtijdbjjkfkjihaaGreatDoor
open Go.Sy
set_option maxRecDepth 100000
set_option linter.all false
end Go.Proofs.YtijdbjjkfkjihaaGreatDoor

/- Out of quotes. Conditions: none. -/
namespace Go.Proofs.YtijdbjjkfkjihaaGreatDoor
open Go.Sy
set_option maxRecDepth 100000
set_option linter.all false
end Go.Proofs.YtijdbjjkfkjihaaGreatDoor

/- The node of a line. Conditions: none. -/
namespace Go.Proofs.YtijdbjjkfkjihaaGreatDoor
open Go.Sy
set_option maxRecDepth 100000
set_option linter.all false
end Go.Proofs.YtijdbjjkfkjihaaGreatDoor

/- A text as nodes; nodes as text. Conditions: none. -/
namespace Go.Proofs.YtijdbjjkfkjihaaGreatDoor
open Go.Sy
set_option maxRecDepth 100000
set_option linter.all false
def okN (l : List Nod) : Prop := ∀ x ∈ l, x.p.length ≤ 1000 ∧ x.x.length ≤ 1000
theorem quoteS_len (s : List UInt8) : (quoteS s).length ≤ 3 * s.length + 2 := by
  have h := qAcc_len s s.length
  unfold qAcc at h
  rw [List.take_length, List.length_cons] at h
  unfold quoteS
  rw [List.length_cons, List.length_append, List.length_singleton]; omega
theorem vline_len {x : Nod} (h : x.p.length ≤ 1000 ∧ x.x.length ≤ 1000) : (vline x).length ≤ 4004 := by
  have := quoteS_len x.x
  unfold vline
  split <;> simp only [List.length_append, List.length_cons, List.length_nil] <;> omega
theorem showN_len : ∀ {l : List Nod}, okN l → (showN l).length ≤ 4004 * l.length
  | [], _ => by simp [showN]
  | x :: l, h => by
    have h1 := vline_len (h x List.mem_cons_self)
    have h2 := showN_len (l := l) fun y hy => h y (List.mem_cons_of_mem _ hy)
    show (vline x ++ showN l).length ≤ _
    rw [List.length_append, List.length_cons]; omega
theorem showN_take {l : List Nod} {k : Nat} {c : Nod} (h : l[k]? = some c) : showN (l.take (k + 1)) = showN (l.take k) ++ vline c := by
  unfold showN; rw [take_snoc h, List.flatMap_append]; simp
def showV (l : List Nod) : AV := .tup [.d (.st (if l.all mayB = true then showN l else [])), .d (.bl (l.all mayB))]
def swB (l : List Nod) (k : Nat) : List (Nat × AV) := [(4, .ptr 0 0), (7, .d (.fs 3 (l.map encN))), (8, .d (.it .i64 l.length)), (9, .d (.it .i64 k))]
def swA (l : List Nod) : Nat → S
  | 0 => ⟨swB l 0, [(0, .cells 2 [.d (.ot (.pointer none)), .nl 1]), (1, .tag 0 76)], 2⟩
  | k + 1 => ⟨swB l (k + 1), [(0, .cells 2 [.ptr 0 0, .ts 1 (bytesD (showN (l.take (k + 1)))) 6]), (1, .tag 0 76), (6, .tail 5 true)], 7⟩
theorem cells_s0 {x y : List UInt8} (h : x = y) : Ob.cells 2 [.ptr 0 0, .ts 1 (bytesD x) 6] = Ob.cells 2 [.ptr 0 0, .ts 1 (bytesD y) 6] := by rw [h]
theorem cells_s1 {x y z : List UInt8} (h : x ++ y = z) : Ob.cells 2 [.ptr 0 0, .ts 1 (bytesD x ++ bytesD y) 6] = Ob.cells 2 [.ptr 0 0, .ts 1 (bytesD z) 6] := by rw [← h, bytesD_app]
theorem vshow_ok (l : List Nod) (ho : okN l) (hl4 : l.length ≤ 1000) : FnC Tryz.prog 15 [.d (.fs 3 (l.map encN))] (showV l) := by
  refine FnC.intro ti_ok Tryz.func15 rfl Tryz.ntmps15 Tryz.call15 rfl (Nat.le_of_ble_eq_true rfl) rfl ?_
  have hl' : ((l.map encN).length : Int) = l.length := by rw [List.length_map]
  (repeat' ((conv=>whnf);first|with_reducible refine gA ?_|(with_reducible first|refine gB ?_|refine gZ (fun x hx hu=>?_)|refine gY (fun x hx=>?_)|refine gE ?_|refine Both.mk ?_ ?_|refine gS (fun h=>?_) (fun h=>?_)|refine Spl.nt ?_|refine Spl.mk (fun h=>?_) (fun h=>?_))))
  refine loop_rule ti_ok (fun k : Nat => k ≤ l.length ∧ (l.take k).all mayB = true) (swA l) (fun k => l.length - k) 0 ⟨Nat.zero_le _, rfl⟩ ⟨And.intro rfl (And.intro rfl (And.intro (it_eq hl') (And.intro rfl trivial))), And.intro rfl (And.intro rfl trivial), rfl⟩ ?_
  intro k ⟨k1, k2⟩
  have hs := showN_len (l := l.take k) fun x hx => ho x (List.mem_of_mem_take hx)
  have htl : (l.take k).length ≤ k := List.length_take_le ..
  rcases Nat.lt_or_ge k l.length with hkl | hkl
  · obtain ⟨c, hc⟩ := lt_get hkl
    have hcb := ho c (List.mem_of_getElem? hc)
    have hm := vmay_ok c (by omega)
    have hq := quote_ok c.x (by omega)
    have hql := quoteS_len c.x
    have e0 := showN_take hc
    by_cases hb : mayB c = true
    · rw [hb] at hm
      have k3 : (l.take (k + 1)).all mayB = true := by rw [all_snocX hc, k2, hb]; rfl
      obtain ⟨p, d, x⟩ := c
      dsimp only at hcb hq hql
      cases d with
      | true =>
        match k with
        | 0 =>
          (repeat' ((conv=>whnf);first|with_reducible refine gA ?_|with_reducible refine at_known hc ?_ | ((with_reducible refine callE_id ?_); first | refine CallE.con ⟨_, hm, ?_⟩ | refine CallE.con ⟨_, hq, ?_⟩) | refine CallP.mk ⟨_, hq, ?_⟩ | with_reducible refine CallI.inl ti_ok i42 rfl ?_ | with_reducible refine CallI.inl ti_ok i82 rfl ?_ | with_reducible refine CallI.ident noEsc (by with_unfolding_all exact rfl) ?_ | with_reducible refine CallI.inl ti_ok i38 rfl ?_|(with_reducible first|refine gB ?_|refine gZ (fun x hx hu=>?_)|refine gY (fun x hx=>?_)|refine gE ?_|refine Both.mk ?_ ?_|refine gS (fun h=>?_) (fun h=>?_)|refine Spl.nt ?_|refine Spl.mk (fun h=>?_) (fun h=>?_))))
          refine again (0 + 1) ⟨by omega, k3⟩ (by dsimp only; omega) (And.intro rfl (And.intro rfl (And.intro rfl (And.intro rfl trivial)))) (And.intro (cells_s0 ?_) (And.intro rfl (And.intro rfl trivial))) rfl
          rw [e0]; show _ = [] ++ vline _
          simp [vline]
        | k + 1 =>
          have hbl : (bytesD (showN (l.take (k + 1)))).length = (showN (l.take (k + 1))).length := by simp [bytesD]
          (repeat' ((conv=>whnf);first|with_reducible refine gA ?_|with_reducible refine at_known hc ?_ | ((with_reducible refine callE_id ?_); first | refine CallE.con ⟨_, hm, ?_⟩ | refine CallE.con ⟨_, hq, ?_⟩) | refine CallP.mk ⟨_, hq, ?_⟩ | with_reducible refine CallI.inl ti_ok i42 rfl ?_ | with_reducible refine CallI.inl ti_ok i82 rfl ?_ | with_reducible refine CallI.ident noEsc (by with_unfolding_all exact rfl) ?_ | with_reducible refine CallI.inl ti_ok i38 rfl ?_|(with_reducible first|refine gB ?_|refine gZ (fun x hx hu=>?_)|refine gY (fun x hx=>?_)|refine gE ?_|refine Both.mk ?_ ?_|refine gS (fun h=>?_) (fun h=>?_)|refine Spl.nt ?_|refine Spl.mk (fun h=>?_) (fun h=>?_))))
          refine again (k + 1 + 1) ⟨by omega, k3⟩ (by dsimp only; omega) (And.intro rfl (And.intro rfl (And.intro rfl (And.intro rfl trivial)))) (And.intro (cells_s1 ?_) (And.intro rfl (And.intro rfl trivial))) rfl
          rw [e0]; refine congrArg _ ?_
          simp [vline]
      | false =>
        match k with
        | 0 =>
          (repeat' ((conv=>whnf);first|with_reducible refine gA ?_|with_reducible refine at_known hc ?_ | ((with_reducible refine callE_id ?_); first | refine CallE.con ⟨_, hm, ?_⟩ | refine CallE.con ⟨_, hq, ?_⟩) | refine CallP.mk ⟨_, hq, ?_⟩ | with_reducible refine CallI.inl ti_ok i42 rfl ?_ | with_reducible refine CallI.inl ti_ok i82 rfl ?_ | with_reducible refine CallI.ident noEsc (by with_unfolding_all exact rfl) ?_ | with_reducible refine CallI.inl ti_ok i38 rfl ?_|(with_reducible first|refine gB ?_|refine gZ (fun x hx hu=>?_)|refine gY (fun x hx=>?_)|refine gE ?_|refine Both.mk ?_ ?_|refine gS (fun h=>?_) (fun h=>?_)|refine Spl.nt ?_|refine Spl.mk (fun h=>?_) (fun h=>?_))))
          refine again (0 + 1) ⟨by omega, k3⟩ (by dsimp only; omega) (And.intro rfl (And.intro rfl (And.intro rfl (And.intro rfl trivial)))) (And.intro (cells_s0 ?_) (And.intro rfl (And.intro rfl trivial))) rfl
          rw [e0]; show _ = [] ++ vline _
          simp [vline]
        | k + 1 =>
          have hbl : (bytesD (showN (l.take (k + 1)))).length = (showN (l.take (k + 1))).length := by simp [bytesD]
          (repeat' ((conv=>whnf);first|with_reducible refine gA ?_|with_reducible refine at_known hc ?_ | ((with_reducible refine callE_id ?_); first | refine CallE.con ⟨_, hm, ?_⟩ | refine CallE.con ⟨_, hq, ?_⟩) | refine CallP.mk ⟨_, hq, ?_⟩ | with_reducible refine CallI.inl ti_ok i42 rfl ?_ | with_reducible refine CallI.inl ti_ok i82 rfl ?_ | with_reducible refine CallI.ident noEsc (by with_unfolding_all exact rfl) ?_ | with_reducible refine CallI.inl ti_ok i38 rfl ?_|(with_reducible first|refine gB ?_|refine gZ (fun x hx hu=>?_)|refine gY (fun x hx=>?_)|refine gE ?_|refine Both.mk ?_ ?_|refine gS (fun h=>?_) (fun h=>?_)|refine Spl.nt ?_|refine Spl.mk (fun h=>?_) (fun h=>?_))))
          refine again (k + 1 + 1) ⟨by omega, k3⟩ (by dsimp only; omega) (And.intro rfl (And.intro rfl (And.intro rfl (And.intro rfl trivial)))) (And.intro (cells_s1 ?_) (And.intro rfl (And.intro rfl trivial))) rfl
          rw [e0]; refine congrArg _ ?_
          simp [vline]
    · rw [Bool.eq_false_iff.2 hb] at hm
      have hbad : l.all mayB = false := not_allX hc (Bool.eq_false_iff.2 hb)
      unfold showV
      rw [hbad]
      match k with
      | 0 =>
        (repeat' ((conv=>whnf);first|with_reducible refine gA ?_|with_reducible refine at_known hc ?_ | ((with_reducible refine callE_id ?_); first | refine CallE.con ⟨_, hm, ?_⟩ | refine CallE.con ⟨_, hq, ?_⟩) | refine CallP.mk ⟨_, hq, ?_⟩ | with_reducible refine CallI.inl ti_ok i42 rfl ?_ | with_reducible refine CallI.inl ti_ok i82 rfl ?_ | with_reducible refine CallI.ident noEsc (by with_unfolding_all exact rfl) ?_ | with_reducible refine CallI.inl ti_ok i38 rfl ?_|(with_reducible first|refine gB ?_|refine gZ (fun x hx hu=>?_)|refine gY (fun x hx=>?_)|refine gE ?_|refine Both.mk ?_ ?_|refine gS (fun h=>?_) (fun h=>?_)|refine Spl.nt ?_|refine Spl.mk (fun h=>?_) (fun h=>?_))))
        rfl
      | k + 1 =>
        (repeat' ((conv=>whnf);first|with_reducible refine gA ?_|with_reducible refine at_known hc ?_ | ((with_reducible refine callE_id ?_); first | refine CallE.con ⟨_, hm, ?_⟩ | refine CallE.con ⟨_, hq, ?_⟩) | refine CallP.mk ⟨_, hq, ?_⟩ | with_reducible refine CallI.inl ti_ok i42 rfl ?_ | with_reducible refine CallI.inl ti_ok i82 rfl ?_ | with_reducible refine CallI.ident noEsc (by with_unfolding_all exact rfl) ?_ | with_reducible refine CallI.inl ti_ok i38 rfl ?_|(with_reducible first|refine gB ?_|refine gZ (fun x hx hu=>?_)|refine gY (fun x hx=>?_)|refine gE ?_|refine Both.mk ?_ ?_|refine gS (fun h=>?_) (fun h=>?_)|refine Spl.nt ?_|refine Spl.mk (fun h=>?_) (fun h=>?_))))
        rfl
  · have hkl2 : l.take k = l := List.take_of_length_le (by omega)
    rw [hkl2] at k2 hs
    unfold showV
    rw [k2]
    match k with
    | 0 =>
      have hl0 : l = [] := List.length_eq_zero_iff.1 (by omega)
      subst hl0
      (repeat' ((conv=>whnf);first|with_reducible refine gA ?_|with_reducible refine CallI.inl ti_ok i42 rfl ?_ | with_reducible refine CallI.inl ti_ok i82 rfl ?_ | with_reducible refine CallI.ident noEsc (by with_unfolding_all exact rfl) ?_ | with_reducible refine CallI.inl ti_ok i38 rfl ?_|(with_reducible first|refine gB ?_|refine gZ (fun x hx hu=>?_)|refine gY (fun x hx=>?_)|refine gE ?_|refine Both.mk ?_ ?_|refine gS (fun h=>?_) (fun h=>?_)|refine Spl.nt ?_|refine Spl.mk (fun h=>?_) (fun h=>?_))))
      rfl
    | k + 1 =>
      (repeat' ((conv=>whnf);first|with_reducible refine gA ?_|with_reducible refine CallI.inl ti_ok i42 rfl ?_ | with_reducible refine CallI.inl ti_ok i82 rfl ?_ | with_reducible refine CallI.ident noEsc (by with_unfolding_all exact rfl) ?_ | with_reducible refine CallI.inl ti_ok i38 rfl ?_|(with_reducible first|refine gB ?_|refine gZ (fun x hx hu=>?_)|refine gY (fun x hx=>?_)|refine gE ?_|refine Both.mk ?_ ?_|refine gS (fun h=>?_) (fun h=>?_)|refine Spl.nt ?_|refine Spl.mk (fun h=>?_) (fun h=>?_))))
      have hbl : (bytesD (showN l)).length = (showN l).length := by simp [bytesD]
      refine ⟨showN l, ⟨?_, ?_, ?_⟩, rfl⟩
      · show bytesD (showN (l.take (k + 1))) = _; rw [hkl2]
      · show ((bytesD (showN (l.take (k + 1)))).length : Int) = _; rw [hkl2, hbl]
      · omega
end Go.Proofs.YtijdbjjkfkjihaaGreatDoor

/- Texts in quotes, by the document's answer. Conditions: none. -/
namespace Go.Proofs.YtijdbjjkfkjihaaGreatDoor
open Go.Sy
set_option maxRecDepth 100000
set_option linter.all false
end Go.Proofs.YtijdbjjkfkjihaaGreatDoor

/- Out of quotes, by the document's answer. Conditions: none. -/
namespace Go.Proofs.YtijdbjjkfkjihaaGreatDoor
open Go.Sy
set_option maxRecDepth 100000
set_option linter.all false
end Go.Proofs.YtijdbjjkfkjihaaGreatDoor

/- A text as nodes, by the document's answer. Conditions: none. -/
namespace Go.Proofs.YtijdbjjkfkjihaaGreatDoor
open Go.Sy
set_option maxRecDepth 100000
set_option linter.all false
end Go.Proofs.YtijdbjjkfkjihaaGreatDoor
