/- Contracts of the functions that the law reaches, and the law. Conditions: none. -/
import Derived.Test.YtijdbjjkfkjihaaGreatDoorKB
import Derived.Test.YtijdbjjkfkjihaaGreatDoorSC
import Derived.Test.YtijdbjjkfkjihaaGreatDoorCards
import Derived.Test.YtijdbjjkfkjihaaGreatDoorTie
set_option linter.all false
/- The tree of a disk: nodes of a folder, by an iterator within itself. Conditions: none. -/
namespace Go.Proofs.YtijdbjjkfkjihaaGreatDoor
open Go.Sy
set_option maxRecDepth 100000
set_option linter.all false
theorem gB0 {p q : Prop} (k : q) (h : q → p := by intro k; with_reducible first | exact g_i64 k | exact g_u64 k | exact g_u8 k | exact g_iq k | exact g_uq k | exact g_rem k | exact LetN.mk k | exact g_hm k | exact g_hb k | exact g_lit k) : p := h k
/-- Of a folder that is told: its names, which one is told, its number. -/
structure Lv where
  N : List (List UInt8)
  k : Nat
  n : Int
  w : D
def rgD (k : Nat) (f : Func) : Ob :=
  match rg (bd f) with
  | some (ps, asg, body) => .loop k ps asg body .done (some .ret)
  | none => .frame 0 []
def tm0 (O : List (List D)) : List (Nat × Ob) := [(7, .tail 35 true), (2, .cells 1 [.ts 3 O 7]), (1, .cells 1 [.d (.bl false)]), (0, .cells 1 [.nl 3])]
def tm1 (O : List (List D)) : List (Nat × Ob) := [(7, .tail 35 true), (2, .cells 1 [.ts 3 O 7]), (1, .cells 1 [.d (.bl false)]), (0, .cells 1 [.ts 3 O 7])]
def c3 (d : Option Dk) (n : Int) (w : D) (bd bn bw : Nat) : List (Nat × Ob) := [(bd, .cells 1 [.d (encD d)]), (bn, .cells 1 [.d (.it .i64 n)]), (bw, .cells 1 [.d w])]
def slI (bd bn bw Y : Nat) (N : List (List UInt8)) (k : Nat) : List (Nat × AV) := [(1, .ptr bw 0), (2, .ptr bd 0), (3, .ptr bn 0), (4, .ptr Y 0), (18, .d (.fs 1 (vS N))), (19, .d (.it .i64 (vS N).length)), (20, .d (.it .i64 (k : Nat)))]
def clo (bd bn bw : Nat) : AV := .fn (.func 60) [] [.ptr bw 0, .ptr bd 0, .ptr bn 0]
theorem fndV_eq (o : Option Nat) : fndV o = .tup [.d (.it .i64 (match o with | some k => (k : Nat) | none => 0)), .d (.bl o.isSome)] := by cases o <;> rfl
theorem join_cons : ∀ (l : List (List UInt8)) (a : List UInt8), 47 :: Lib.join (a :: l) [47] = joinP (a :: l)
  | [], a => by simp [joinP, Lib.join, List.intercalate]
  | b :: t, a => by
    have e : Lib.join (a :: b :: t) [47] = a ++ 47 :: Lib.join (b :: t) [47] := by simp [Lib.join, List.intercalate]
    rw [e, join_cons t b]
    simp [joinP]
theorem joinP_len8 : ∀ (l : List (List UInt8)), (∀ s ∈ l, s.length ≤ 8) → (joinP l).length ≤ 9 * l.length
  | [], _ => by simp [joinP]
  | a :: l, h => by
    have h1 := joinP_len8 l fun s hs => h s (List.mem_cons_of_mem _ hs)
    have h2 := h a List.mem_cons_self
    show ((47 :: a) ++ joinP l).length ≤ _
    rw [List.length_append, List.length_cons, List.length_cons]; omega
theorem join_way (l : List (List UInt8)) (hl : ∀ s ∈ l, s.length ≤ 8) (h4 : l.length ≤ 4) (hne : l ≠ []) : FnC Tryz.prog 64 [.d (.fs 1 (vS l))] (.d (.st (joinR l))) := by
  have hlen := joinP_len8 l hl
  have e : 47 :: Lib.join l [47] = joinR l := by
    unfold joinR
    rw [if_neg hne]
    match l, hne with
    | a :: t, _ => exact join_cons t a
  have e2 : joinR l = joinP l := if_neg hne
  have := congrArg List.length e
  rw [List.length_cons, e2] at this
  have h := pathJoin_ok l (by omega) (by omega)
  rw [e] at h
  exact h
def E0 (FT FI : Func) (R : Nat → Func → Ob) (d : Option Dk) (n : Int) (w : D) (tl : List (Nat × Ob)) : List (Nat × Ob) := (9, R 8 FT) :: (8, .frame 23 [(2, .ptr 0 0), (3, .ptr 1 0), (4, .ptr 2 0), (11, clo 4 5 6)]) :: (c3 d n w 4 5 6 ++ tl)
def E1 (FT FI : Func) (R : Nat → Func → Ob) (d : Option Dk) (n : Int) (w : D) (v0 : Lv) (tl : List (Nat × Ob)) : List (Nat × Ob) := (18, R 17 FI) :: (17, .frame 73 (slI 4 5 6 10 v0.N v0.k ++ [(65, clo 14 15 16)])) :: (c3 d n w 14 15 16 ++ (10, .cells 1 [.yld 9]) :: E0 FT FI R d v0.n v0.w tl)
def E2 (FT FI : Func) (R : Nat → Func → Ob) (d : Option Dk) (n : Int) (w : D) (v0 v1 : Lv) (tl : List (Nat × Ob)) : List (Nat × Ob) := (27, R 26 FI) :: (26, .frame 73 (slI 14 15 16 19 v1.N v1.k ++ [(65, clo 23 24 25)])) :: (c3 d n w 23 24 25 ++ (19, .cells 1 [.yld 18]) :: E1 FT FI R d v1.n v1.w v0 tl)
def E3 (FT FI : Func) (R : Nat → Func → Ob) (d : Option Dk) (n : Int) (w : D) (v0 v1 v2 : Lv) (tl : List (Nat × Ob)) : List (Nat × Ob) := (36, R 35 FI) :: (35, .frame 73 (slI 23 24 25 28 v2.N v2.k ++ [(65, clo 32 33 34)])) :: (c3 d n w 32 33 34 ++ (28, .cells 1 [.yld 27]) :: E2 FT FI R d v2.n v2.w v0 v1 tl)
def E4 (FT FI : Func) (R : Nat → Func → Ob) (d : Option Dk) (n : Int) (w : D) (v0 v1 v2 v3 : Lv) (tl : List (Nat × Ob)) : List (Nat × Ob) := (45, R 44 FI) :: (44, .frame 73 (slI 32 33 34 37 v3.N v3.k ++ [(65, clo 41 42 43)])) :: (c3 d n w 41 42 43 ++ (37, .cells 1 [.yld 36]) :: E3 FT FI R d v3.n v3.w v0 v1 v2 tl)
set_option maxHeartbeats 8000000 in
theorem lvl4 (d : Option Dk) (hd : DkOK d) (v0 v1 v2 v3 : Lv) (n : Int) (way : List (List UInt8)) (hw : way.length = 4) (hwn : ∀ s ∈ way, s.length ≤ 8) (out : List Nod) (ho : out.length ≤ 64) (O : List (List D)) (hO : O = out.map encN) (G : Exit → S → Prop)
    (hA1 : (out ++ subV (rdS d) 0 n way).length ≤ 64 → G .ret ⟨[], E4 Tryz.f8 Tryz.f60 rgL d n (.fs 1 (vS way)) v0 v1 v2 v3 (tm0 ((out ++ subV (rdS d) 0 n way).map encN)), 46⟩) (hA2 : (out ++ subV (rdS d) 0 n way).length ≤ 64 → G .normal ⟨[], E4 Tryz.f8 Tryz.f60 rgL d n (.fs 1 (vS way)) v0 v1 v2 v3 (tm0 ((out ++ subV (rdS d) 0 n way).map encN)), 46⟩) (hB : ¬ (out ++ subV (rdS d) 0 n way).length ≤ 64 → G .ret ⟨[], E4 Tryz.f8 Tryz.f60 rgD d n (.fs 1 (vS way)) v0 v1 v2 v3 (tm1 (((out ++ subV (rdS d) 0 n way).take 64).map encN)), 46⟩) :
    vc Tryz.prog ti 72 (bd Tryz.f60) (fun e υ => ∃ τ, Wk 72 υ τ ∧ G e τ) ⟨idx 0 [.yld 45, .ptr 43 0, .ptr 41 0, .ptr 42 0], E4 Tryz.f8 Tryz.f60 rgL d n (.fs 1 (vS way)) v0 v1 v2 v3 (tm0 O), 46⟩ := by
  have hwl : (vS way).length = way.length := List.length_map ..
  have hT : out ++ subV (rdS d) 0 n way = out := List.append_nil _
  rw [hT, ← hO] at hA1
  (repeat' ((conv=>whnf);first|with_reducible refine gA ?_|(with_reducible first|refine gB ?_|refine gZ (fun x hx hu=>?_)|refine gY (fun x hx=>?_)|refine gE ?_|refine Both.mk ?_ ?_|refine gS (fun h=>?_) (fun h=>?_)|refine Spl.nt ?_|refine Spl.mk (fun h=>?_) (fun h=>?_))))
  exact ⟨⟨[], E4 Tryz.f8 Tryz.f60 rgL d n (.fs 1 (vS way)) v0 v1 v2 v3 (tm0 O), 46⟩, Wk.enF trivial (by (repeat (first | exact trivial | refine And.intro (obw_eq rfl (by with_unfolding_all exact rfl)) ?_ | refine And.intro (obw_fr (by with_unfolding_all exact rfl) (by (repeat (first | exact trivial | refine And.intro (by with_unfolding_all exact rfl) ?_)))) ?_))) rfl, hA1 ho⟩
set_option maxHeartbeats 16000000 in
theorem lvl3 (d : Option Dk) (hd : DkOK d) (v0 v1 v2 : Lv) (n : Int) (way : List (List UInt8)) (hw : way.length = 3) (hwn : ∀ s ∈ way, s.length ≤ 8) (out : List Nod) (ho : out.length ≤ 64) (O : List (List D)) (hO : O = out.map encN) (G : Exit → S → Prop)
    (hA1 : (out ++ subV (rdS d) 1 n way).length ≤ 64 → G .ret ⟨[], E3 Tryz.f8 Tryz.f60 rgL d n (.fs 1 (vS way)) v0 v1 v2 (tm0 ((out ++ subV (rdS d) 1 n way).map encN)), 37⟩) (hA2 : (out ++ subV (rdS d) 1 n way).length ≤ 64 → G .normal ⟨[], E3 Tryz.f8 Tryz.f60 rgL d n (.fs 1 (vS way)) v0 v1 v2 (tm0 ((out ++ subV (rdS d) 1 n way).map encN)), 37⟩) (hB : ¬ (out ++ subV (rdS d) 1 n way).length ≤ 64 → G .ret ⟨[], E3 Tryz.f8 Tryz.f60 rgD d n (.fs 1 (vS way)) v0 v1 v2 (tm1 (((out ++ subV (rdS d) 1 n way).take 64).map encN)), 37⟩) :
    vc Tryz.prog ti 72 (bd Tryz.f60) (fun e υ => ∃ τ, Wk 72 υ τ ∧ G e τ) ⟨idx 0 [.yld 36, .ptr 34 0, .ptr 32 0, .ptr 33 0], E3 Tryz.f8 Tryz.f60 rgL d n (.fs 1 (vS way)) v0 v1 v2 (tm0 O), 37⟩ := by
  have hwl : (vS way).length = way.length := List.length_map ..
  have hnl : (vS (nms (rdS d) n)).length = (nms (rdS d) n).length := List.length_map ..
  have hls := list_ok d hd n
  have hkb := nms_len (rdS d) n
  subst hO
  (repeat' ((conv=>whnf);first|with_reducible refine gA ?_|((with_reducible refine callE_id ?_); refine CallE.con ⟨_, hls, ?_⟩)|(with_reducible first|refine gB ?_|refine gZ (fun x hx hu=>?_)|refine gY (fun x hx=>?_)|refine gE ?_|refine Both.mk ?_ ?_|refine gS (fun h=>?_) (fun h=>?_)|refine Spl.nt ?_|refine Spl.mk (fun h=>?_) (fun h=>?_))))
  conv => whnf
  refine LoopS.wk (τ := ⟨slI 32 33 34 37 (nms (rdS d) n) 0, (37, .cells 1 [.yld 36]) :: E3 Tryz.f8 Tryz.f60 rgL d n (.fs 1 (vS way)) v0 v1 v2 (tm0 (out.map encN)), 38⟩) (Wk.enF (by (repeat (first | exact trivial | refine And.intro rfl ?_))) (by (repeat (first | exact trivial | refine And.intro (obw_eq rfl (by with_unfolding_all exact rfl)) ?_ | refine And.intro (obw_fr (by with_unfolding_all exact rfl) (by (repeat (first | exact trivial | refine And.intro (by with_unfolding_all exact rfl) ?_)))) ?_))) rfl) ?_
  refine loop_ruleW ti_ok (fun x : Nat × List Nod => x.1 ≤ (nms (rdS d) n).length ∧ x.2.length ≤ 64 ∧ x.2 ++ subL (rdS d) 0 n way ((nms (rdS d) n).drop x.1) = out ++ subV (rdS d) 1 n way) (fun x : Nat × List Nod => ⟨slI 32 33 34 37 (nms (rdS d) n) x.1, (37, .cells 1 [.yld 36]) :: E3 Tryz.f8 Tryz.f60 rgL d n (.fs 1 (vS way)) v0 v1 v2 (tm0 (x.2.map encN)), 38⟩) (fun x => (nms (rdS d) n).length - x.1) (0, out) ⟨Nat.zero_le _, ho, rfl⟩ (Wk.en ⟨by (repeat (first | exact trivial | refine And.intro rfl ?_)), by (repeat (first | exact trivial | refine And.intro rfl ?_)), rfl⟩) ?_
  intro ⟨k, out1⟩ ⟨k1, ho1, hT⟩
  dsimp only at k1 ho1 hT
  have hol : (out1.map encN).length = out1.length := List.length_map ..
  rcases Nat.lt_or_ge k (nms (rdS d) n).length with hkl | hkl
  · obtain ⟨s, hs⟩ := lt_get hkl
    have hx : (vS (nms (rdS d) n))[k]? = some [.st s] := by unfold vS; rw [List.getElem?_map, hs]; rfl
    have hsn := name_len (nms_name (rdS d) n s (List.mem_of_getElem? hs))
    have hwn2 : ∀ t ∈ way ++ [s], t.length ≤ 8 := fun t ht => by
      rcases List.mem_append.1 ht with ht | ht
      · exact hwn t ht
      · rw [List.mem_singleton.1 ht]; exact hsn
    have hw2 : (way ++ [s]).length = 4 := by rw [List.length_append, hw]; rfl
    have hf := find_ok d hd n s
    rw [fndV_eq] at hf
    have he := entry_ok d hd (kOf (rdS d) n s)
    have hi := inode_ok d hd (mOf (rdS d) n s)
    have hj := join_way (way ++ [s]) hwn2 (by omega) (by simp)
    have hda := data_ok d hd (inoAt (rdS d) (mOf (rdS d) n s)) (inoAt_RI _ _)
    rw [drop_at hs, subL_cons] at hT
    have hwo : vS way ++ [[.st s]] = vS (way ++ [s]) := by unfold vS; rw [List.map_append]; rfl
    have htk : (List.take (((vS way).length : Nat) : Int).toNat (vS way)).length ≤ 4 := by rw [List.length_take]; omega
    have hvl : (vS (way ++ [s])).length = 4 := by unfold vS; rw [List.length_map]; exact hw2
    have hwo2 : (vS way).take (((vS way).length : Nat) : Int).toNat ++ [[.st s]] = vS (way ++ [s]) := by rw [List.take_of_length_le (by omega)]; exact hwo
    have hmap : (out1.map encN ++ [encN (nodV (rdS d) way n s)]) = (out1 ++ [(nodV (rdS d) way n s)]).map encN := by rw [List.map_append]; rfl
    have hE : out1.length = 64 → G .ret ⟨[], E3 Tryz.f8 Tryz.f60 rgD d n (.fs 1 (vS way)) v0 v1 v2 (tm1 (out1.map encN)), 37⟩ := fun h => by
      have := hB (by rw [← hT, List.length_append, List.length_cons]; omega)
      rw [← hT, List.take_left' h] at this
      exact this
    have hT2 : (inoAt (rdS d) (mOf (rdS d) n s)).k = 2 → ((out1 ++ [(nodV (rdS d) way n s)]) ++ subV (rdS d) 0 (mOf (rdS d) n s) (way ++ [s])) ++ subL (rdS d) 0 n way ((nms (rdS d) n).drop (k + 1)) = out ++ subV (rdS d) 1 n way := fun h => by
      rw [← hT, if_pos h]; simp only [List.append_assoc, List.cons_append, List.nil_append]
    have hT3 : ¬ (inoAt (rdS d) (mOf (rdS d) n s)).k = 2 → (out1 ++ [(nodV (rdS d) way n s)]) ++ subL (rdS d) 0 n way ((nms (rdS d) n).drop (k + 1)) = out ++ subV (rdS d) 1 n way := fun h => by
      rw [← hT, if_neg h]; simp only [List.append_assoc, List.cons_append, List.nil_append]
    have hE2 : (inoAt (rdS d) (mOf (rdS d) n s)).k = 2 → ¬ ((out1 ++ [(nodV (rdS d) way n s)]) ++ subV (rdS d) 0 (mOf (rdS d) n s) (way ++ [s])).length ≤ 64 → G .ret ⟨[], E3 Tryz.f8 Tryz.f60 rgD d n (.fs 1 (vS way)) v0 v1 v2 (tm1 ((((out1 ++ [(nodV (rdS d) way n s)]) ++ subV (rdS d) 0 (mOf (rdS d) n s) (way ++ [s])).take 64).map encN)), 37⟩ := fun h h2 => by
      have := hB (by rw [← hT2 h, List.length_append]; omega)
      rw [← hT2 h, List.take_append_of_le_length (by omega)] at this
      exact this
    have hmu : (nms (rdS d) n).length - (k + 1) < (nms (rdS d) n).length - k := by omega
    clear hT hB
    (repeat' ((conv=>whnf);first|with_reducible refine gA ?_|((with_reducible refine callE_id ?_); first | refine CallE.con ⟨_, hf, ?_⟩ | refine CallE.con ⟨_, he, ?_⟩ | refine CallE.con ⟨_, hi, ?_⟩ | refine CallE.con ⟨_, hj, ?_⟩ | refine CallE.con ⟨_, hda, ?_⟩ | refine CallE.inl ?_) | refine CallP.mk ⟨_, hj, ?_⟩ | refine CallP.mk ⟨_, hda, ?_⟩|(with_reducible first|refine gB0 ?_|refine gZ (fun x hx hu=>?_)|refine gY (fun x hx=>?_)|refine gE ?_|refine Both.mk ?_ ?_|refine gS (fun h=>?_) (fun h=>?_)|refine Spl.nt ?_|refine Spl.mk (fun h=>?_) (fun h=>?_))))
    refine DrawS.wk (τ := ⟨(9, .d (.it .i64 (mOf (rdS d) n s))) :: (10, .ptr 38 0) :: (11, .d (.fs 1 (vS (way ++ [s])))) :: slI 32 33 34 37 (nms (rdS d) n) k, (39, .tag 38 50) :: (38, .cells 6 ((encI (inoAt (rdS d) (mOf (rdS d) n s))).map .d)) :: (37, .cells 1 [.yld 36]) :: E3 Tryz.f8 Tryz.f60 rgL d n (.fs 1 (vS way)) v0 v1 v2 (tm0 (out1.map encN)), 40⟩) ?_ ?_
    · exact Wk.vwL (by (repeat (first | exact trivial | refine And.intro (Vw.eq rfl) ?_ | refine And.intro (Vw.ts' hwo2) ?_))) (by (repeat (first | exact trivial | refine And.intro (VwO.same _) ?_))) rfl
    (repeat' ((conv=>whnf);first|with_reducible refine gA ?_|((with_reducible refine callE_id ?_); first | refine CallE.con ⟨_, hf, ?_⟩ | refine CallE.con ⟨_, he, ?_⟩ | refine CallE.con ⟨_, hi, ?_⟩ | refine CallE.con ⟨_, hj, ?_⟩ | refine CallE.con ⟨_, hda, ?_⟩ | refine CallE.inl ?_) | refine CallP.mk ⟨_, hj, ?_⟩ | refine CallP.mk ⟨_, hda, ?_⟩|(with_reducible first|refine gB ?_|refine gZ (fun x hx hu=>?_)|refine gY (fun x hx=>?_)|refine gE ?_|refine Both.mk ?_ ?_|refine gS (fun h=>?_) (fun h=>?_)|refine Spl.nt ?_|refine Spl.mk (fun h=>?_) (fun h=>?_))))
    refine YieldI.post ?_
    refine YieldI.intro ti_ok (by with_unfolding_all exact rfl) (by with_unfolding_all exact rfl) (by with_unfolding_all exact rfl) ?_
    (repeat' ((conv=>whnf);first|with_reducible refine gA ?_|with_reducible refine YieldI.intro ti_ok (by with_unfolding_all exact rfl) (by with_unfolding_all exact rfl) (by with_unfolding_all exact rfl) ?_|(with_reducible first|refine gB ?_|refine gZ (fun x hx hu=>?_)|refine gY (fun x hx=>?_)|refine gE ?_|refine Both.mk ?_ ?_|refine gS (fun h=>?_) (fun h=>?_)|refine Spl.nt ?_|refine Spl.mk (fun h=>?_) (fun h=>?_))))
    · refine ⟨⟨[(57, .d (.bl false))], E3 Tryz.f8 Tryz.f60 rgD d n (.fs 1 (vS way)) v0 v1 v2 (tm1 (out1.map encN)), 38⟩, Wk.enF (by (repeat (first | exact trivial | refine And.intro rfl ?_))) (by (repeat (first | exact trivial | refine And.intro (obw_eq rfl (by with_unfolding_all exact rfl)) ?_ | refine And.intro (obw_fr (by with_unfolding_all exact rfl) (by (repeat (first | exact trivial | refine And.intro (by with_unfolding_all exact rfl) ?_)))) ?_))) rfl, ?_⟩
      (repeat' ((conv=>whnf);first|with_reducible refine gA ?_|(with_reducible first|refine gB ?_|refine gZ (fun x hx hu=>?_)|refine gY (fun x hx=>?_)|refine gE ?_|refine Both.mk ?_ ?_|refine gS (fun h=>?_) (fun h=>?_)|refine Spl.nt ?_|refine Spl.mk (fun h=>?_) (fun h=>?_))))
      exact ⟨⟨[], E3 Tryz.f8 Tryz.f60 rgD d n (.fs 1 (vS way)) v0 v1 v2 (tm1 (out1.map encN)), 37⟩, Wk.enF trivial (by (repeat (first | exact trivial | refine And.intro (obw_eq rfl (by with_unfolding_all exact rfl)) ?_ | refine And.intro (obw_fr (by with_unfolding_all exact rfl) (by (repeat (first | exact trivial | refine And.intro (by with_unfolding_all exact rfl) ?_)))) ?_))) rfl, hE (by omega)⟩
    · have hlo : (out1 ++ [(nodV (rdS d) way n s)]).length ≤ 64 := by rw [List.length_append, List.length_singleton]; omega
      refine ⟨⟨(57, .d (.bl true)) :: (9, .d (.it .i64 (mOf (rdS d) n s))) :: (10, .ptr 38 0) :: (11, .d (.fs 1 (vS (way ++ [s])))) :: slI 32 33 34 37 (nms (rdS d) n) k, (39, .tag 38 50) :: (38, .cells 6 ((encI (inoAt (rdS d) (mOf (rdS d) n s))).map .d)) :: (37, .cells 1 [.yld 36]) :: E3 Tryz.f8 Tryz.f60 rgL d n (.fs 1 (vS way)) v0 v1 v2 (tm0 (out1.map encN ++ [encN (nodV (rdS d) way n s)])), 40⟩, Wk.enF (by (repeat (first | exact trivial | refine And.intro rfl ?_))) (by (repeat (first | exact trivial | refine And.intro (obw_eq rfl (by with_unfolding_all exact rfl)) ?_ | refine And.intro (obw_fr (by with_unfolding_all exact rfl) (by (repeat (first | exact trivial | refine And.intro (by with_unfolding_all exact rfl) ?_)))) ?_))) rfl, ?_⟩
      by_cases hk2 : (inoAt (rdS d) (mOf (rdS d) n s)).k = 2
      · (repeat' ((conv=>whnf);first|with_reducible refine gA ?_|((with_reducible refine callE_id ?_); refine CallE.inl ?_) | with_reducible refine CallI.inl ti_ok i28 rfl ?_|(with_reducible first|refine gB ?_|refine gZ (fun x hx hu=>?_)|refine gY (fun x hx=>?_)|refine gE ?_|refine Both.mk ?_ ?_|refine gS (fun h=>?_) (fun h=>?_)|refine Spl.nt ?_|refine Spl.mk (fun h=>?_) (fun h=>?_))))
        conv => whnf
        refine RangeS.wk (τ := ⟨slI 32 33 34 37 (nms (rdS d) n) k ++ [(65, clo 41 42 43)], c3 d (mOf (rdS d) n s) (.fs 1 (vS (way ++ [s]))) 41 42 43 ++ (37, .cells 1 [.yld 36]) :: E3 Tryz.f8 Tryz.f60 rgL d n (.fs 1 (vS way)) v0 v1 v2 (tm0 (out1.map encN ++ [encN (nodV (rdS d) way n s)])), 44⟩) (Wk.enF (by (repeat (first | exact trivial | refine And.intro rfl ?_))) (by (repeat (first | exact trivial | refine And.intro (obw_eq rfl (by with_unfolding_all exact rfl)) ?_ | refine And.intro (obw_fr (by with_unfolding_all exact rfl) (by (repeat (first | exact trivial | refine And.intro (by with_unfolding_all exact rfl) ?_)))) ?_))) rfl) ?_
        refine RangeS.introW ti_ok i60 rfl rfl (lvl4 d hd v0 v1 v2 ⟨nms (rdS d) n, k, n, .fs 1 (vS way)⟩ (mOf (rdS d) n s) (way ++ [s]) hw2 hwn2 (out1 ++ [(nodV (rdS d) way n s)]) hlo (out1.map encN ++ [encN (nodV (rdS d) way n s)]) hmap _ ?_ ?_ ?_)
        · intro h2
          (repeat' ((conv=>whnf);first|with_reducible refine gA ?_|(with_reducible first|refine gB ?_|refine gZ (fun x hx hu=>?_)|refine gY (fun x hx=>?_)|refine gE ?_|refine Both.mk ?_ ?_|refine gS (fun h=>?_) (fun h=>?_)|refine Spl.nt ?_|refine Spl.mk (fun h=>?_) (fun h=>?_))))
          exact ⟨(k + 1, (out1 ++ [(nodV (rdS d) way n s)]) ++ subV (rdS d) 0 (mOf (rdS d) n s) (way ++ [s])), ⟨hkl, h2, hT2 hk2⟩, by dsimp only; omega, Wk.enF (And.intro rfl (And.intro rfl (And.intro rfl (And.intro rfl (And.intro rfl (And.intro rfl (And.intro (it_eq (by first | omega | (dsimp only; omega))) trivial))))))) (by (repeat (first | exact trivial | refine And.intro (obw_eq rfl (by with_unfolding_all exact rfl)) ?_ | refine And.intro (obw_fr (by with_unfolding_all exact rfl) (by (repeat (first | exact trivial | refine And.intro (by with_unfolding_all exact rfl) ?_)))) ?_))) rfl⟩
        · intro h2
          (repeat' ((conv=>whnf);first|with_reducible refine gA ?_|(with_reducible first|refine gB ?_|refine gZ (fun x hx hu=>?_)|refine gY (fun x hx=>?_)|refine gE ?_|refine Both.mk ?_ ?_|refine gS (fun h=>?_) (fun h=>?_)|refine Spl.nt ?_|refine Spl.mk (fun h=>?_) (fun h=>?_))))
          exact ⟨(k + 1, (out1 ++ [(nodV (rdS d) way n s)]) ++ subV (rdS d) 0 (mOf (rdS d) n s) (way ++ [s])), ⟨hkl, h2, hT2 hk2⟩, by dsimp only; omega, Wk.enF (And.intro rfl (And.intro rfl (And.intro rfl (And.intro rfl (And.intro rfl (And.intro rfl (And.intro (it_eq (by first | omega | (dsimp only; omega))) trivial))))))) (by (repeat (first | exact trivial | refine And.intro (obw_eq rfl (by with_unfolding_all exact rfl)) ?_ | refine And.intro (obw_fr (by with_unfolding_all exact rfl) (by (repeat (first | exact trivial | refine And.intro (by with_unfolding_all exact rfl) ?_)))) ?_))) rfl⟩
        · intro h2
          (repeat' ((conv=>whnf);first|with_reducible refine gA ?_|(with_reducible first|refine gB ?_|refine gZ (fun x hx hu=>?_)|refine gY (fun x hx=>?_)|refine gE ?_|refine Both.mk ?_ ?_|refine gS (fun h=>?_) (fun h=>?_)|refine Spl.nt ?_|refine Spl.mk (fun h=>?_) (fun h=>?_))))
          exact ⟨⟨[], E3 Tryz.f8 Tryz.f60 rgD d n (.fs 1 (vS way)) v0 v1 v2 (tm1 ((((out1 ++ [(nodV (rdS d) way n s)]) ++ subV (rdS d) 0 (mOf (rdS d) n s) (way ++ [s])).take 64).map encN)), 37⟩, Wk.enF trivial (by (repeat (first | exact trivial | refine And.intro (obw_eq rfl (by with_unfolding_all exact rfl)) ?_ | refine And.intro (obw_fr (by with_unfolding_all exact rfl) (by (repeat (first | exact trivial | refine And.intro (by with_unfolding_all exact rfl) ?_)))) ?_))) rfl, hE2 hk2 h2⟩
      · (repeat' ((conv=>whnf);first|with_reducible refine gA ?_|(with_reducible first|refine gB ?_|refine gZ (fun x hx hu=>?_)|refine gY (fun x hx=>?_)|refine gE ?_|refine Both.mk ?_ ?_|refine gS (fun h=>?_) (fun h=>?_)|refine Spl.nt ?_|refine Spl.mk (fun h=>?_) (fun h=>?_))))
        exact ⟨(k + 1, out1 ++ [(nodV (rdS d) way n s)]), ⟨hkl, hlo, hT3 hk2⟩, hmu, wk_tr (congrArg (fun O => (⟨slI 32 33 34 37 (nms (rdS d) n) (k + 1), (37, .cells 1 [.yld 36]) :: E3 Tryz.f8 Tryz.f60 rgL d n (.fs 1 (vS way)) v0 v1 v2 (tm0 O), 38⟩ : S)) hmap) (Wk.enF (And.intro rfl (And.intro rfl (And.intro rfl (And.intro rfl (And.intro rfl (And.intro rfl (And.intro (it_eq (by first | omega | (dsimp only; omega))) trivial))))))) (by (repeat (first | exact trivial | refine And.intro (obw_eq rfl (by with_unfolding_all exact rfl)) ?_ | refine And.intro (obw_fr (by with_unfolding_all exact rfl) (by (repeat (first | exact trivial | refine And.intro (by with_unfolding_all exact rfl) ?_)))) ?_))) rfl)⟩
  · have hN : G .normal ⟨[], E3 Tryz.f8 Tryz.f60 rgL d n (.fs 1 (vS way)) v0 v1 v2 (tm0 (out1.map encN)), 37⟩ := by
      have e : out1 = out ++ subV (rdS d) 1 n way := by
        rw [← hT, List.drop_of_length_le hkl]; exact (List.append_nil _).symm
      have := hA2 (by rw [← e]; exact ho1)
      rw [← e] at this
      exact this
    (repeat' ((conv=>whnf);first|with_reducible refine gA ?_|(with_reducible first|refine gB ?_|refine gZ (fun x hx hu=>?_)|refine gY (fun x hx=>?_)|refine gE ?_|refine Both.mk ?_ ?_|refine gS (fun h=>?_) (fun h=>?_)|refine Spl.nt ?_|refine Spl.mk (fun h=>?_) (fun h=>?_))))
    exact ⟨⟨[], E3 Tryz.f8 Tryz.f60 rgL d n (.fs 1 (vS way)) v0 v1 v2 (tm0 (out1.map encN)), 37⟩, Wk.enF trivial (by (repeat (first | exact trivial | refine And.intro (obw_eq rfl (by with_unfolding_all exact rfl)) ?_ | refine And.intro (obw_fr (by with_unfolding_all exact rfl) (by (repeat (first | exact trivial | refine And.intro (by with_unfolding_all exact rfl) ?_)))) ?_))) rfl, hN⟩
end Go.Proofs.YtijdbjjkfkjihaaGreatDoor

/- The tree of a disk: the third level. Conditions: none. -/
namespace Go.Proofs.YtijdbjjkfkjihaaGreatDoor
open Go.Sy
set_option maxRecDepth 100000
set_option linter.all false
set_option maxHeartbeats 16000000 in
theorem lvl2 (d : Option Dk) (hd : DkOK d) (v0 v1 : Lv) (n : Int) (way : List (List UInt8)) (hw : way.length = 2) (hwn : ∀ s ∈ way, s.length ≤ 8) (out : List Nod) (ho : out.length ≤ 64) (O : List (List D)) (hO : O = out.map encN) (G : Exit → S → Prop)
    (hA1 : (out ++ subV (rdS d) 2 n way).length ≤ 64 → G .ret ⟨[], E2 Tryz.f8 Tryz.f60 rgL d n (.fs 1 (vS way)) v0 v1 (tm0 ((out ++ subV (rdS d) 2 n way).map encN)), 28⟩) (hA2 : (out ++ subV (rdS d) 2 n way).length ≤ 64 → G .normal ⟨[], E2 Tryz.f8 Tryz.f60 rgL d n (.fs 1 (vS way)) v0 v1 (tm0 ((out ++ subV (rdS d) 2 n way).map encN)), 28⟩) (hB : ¬ (out ++ subV (rdS d) 2 n way).length ≤ 64 → G .ret ⟨[], E2 Tryz.f8 Tryz.f60 rgD d n (.fs 1 (vS way)) v0 v1 (tm1 (((out ++ subV (rdS d) 2 n way).take 64).map encN)), 28⟩) :
    vc Tryz.prog ti 72 (bd Tryz.f60) (fun e υ => ∃ τ, Wk 72 υ τ ∧ G e τ) ⟨idx 0 [.yld 27, .ptr 25 0, .ptr 23 0, .ptr 24 0], E2 Tryz.f8 Tryz.f60 rgL d n (.fs 1 (vS way)) v0 v1 (tm0 O), 28⟩ := by
  have hwl : (vS way).length = way.length := List.length_map ..
  have hnl : (vS (nms (rdS d) n)).length = (nms (rdS d) n).length := List.length_map ..
  have hls := list_ok d hd n
  have hkb := nms_len (rdS d) n
  subst hO
  (repeat' ((conv=>whnf);first|with_reducible refine gA ?_|((with_reducible refine callE_id ?_); refine CallE.con ⟨_, hls, ?_⟩)|(with_reducible first|refine gB ?_|refine gZ (fun x hx hu=>?_)|refine gY (fun x hx=>?_)|refine gE ?_|refine Both.mk ?_ ?_|refine gS (fun h=>?_) (fun h=>?_)|refine Spl.nt ?_|refine Spl.mk (fun h=>?_) (fun h=>?_))))
  conv => whnf
  refine LoopS.wk (τ := ⟨slI 23 24 25 28 (nms (rdS d) n) 0, (28, .cells 1 [.yld 27]) :: E2 Tryz.f8 Tryz.f60 rgL d n (.fs 1 (vS way)) v0 v1 (tm0 (out.map encN)), 29⟩) (Wk.enF (by (repeat (first | exact trivial | refine And.intro rfl ?_))) (by (repeat (first | exact trivial | refine And.intro (obw_eq rfl (by with_unfolding_all exact rfl)) ?_ | refine And.intro (obw_fr (by with_unfolding_all exact rfl) (by (repeat (first | exact trivial | refine And.intro (by with_unfolding_all exact rfl) ?_)))) ?_))) rfl) ?_
  refine loop_ruleW ti_ok (fun x : Nat × List Nod => x.1 ≤ (nms (rdS d) n).length ∧ x.2.length ≤ 64 ∧ x.2 ++ subL (rdS d) 1 n way ((nms (rdS d) n).drop x.1) = out ++ subV (rdS d) 2 n way) (fun x : Nat × List Nod => ⟨slI 23 24 25 28 (nms (rdS d) n) x.1, (28, .cells 1 [.yld 27]) :: E2 Tryz.f8 Tryz.f60 rgL d n (.fs 1 (vS way)) v0 v1 (tm0 (x.2.map encN)), 29⟩) (fun x => (nms (rdS d) n).length - x.1) (0, out) ⟨Nat.zero_le _, ho, rfl⟩ (Wk.en ⟨by (repeat (first | exact trivial | refine And.intro rfl ?_)), by (repeat (first | exact trivial | refine And.intro rfl ?_)), rfl⟩) ?_
  intro ⟨k, out1⟩ ⟨k1, ho1, hT⟩
  dsimp only at k1 ho1 hT
  have hol : (out1.map encN).length = out1.length := List.length_map ..
  rcases Nat.lt_or_ge k (nms (rdS d) n).length with hkl | hkl
  · obtain ⟨s, hs⟩ := lt_get hkl
    have hx : (vS (nms (rdS d) n))[k]? = some [.st s] := by unfold vS; rw [List.getElem?_map, hs]; rfl
    have hsn := name_len (nms_name (rdS d) n s (List.mem_of_getElem? hs))
    have hwn2 : ∀ t ∈ way ++ [s], t.length ≤ 8 := fun t ht => by
      rcases List.mem_append.1 ht with ht | ht
      · exact hwn t ht
      · rw [List.mem_singleton.1 ht]; exact hsn
    have hw2 : (way ++ [s]).length = 3 := by rw [List.length_append, hw]; rfl
    have hf := find_ok d hd n s
    rw [fndV_eq] at hf
    have he := entry_ok d hd (kOf (rdS d) n s)
    have hi := inode_ok d hd (mOf (rdS d) n s)
    have hj := join_way (way ++ [s]) hwn2 (by omega) (by simp)
    have hda := data_ok d hd (inoAt (rdS d) (mOf (rdS d) n s)) (inoAt_RI _ _)
    rw [drop_at hs, subL_cons] at hT
    have hwo : vS way ++ [[.st s]] = vS (way ++ [s]) := by unfold vS; rw [List.map_append]; rfl
    have htk : (List.take (((vS way).length : Nat) : Int).toNat (vS way)).length ≤ 4 := by rw [List.length_take]; omega
    have hvl : (vS (way ++ [s])).length = 3 := by unfold vS; rw [List.length_map]; exact hw2
    have hwo2 : (vS way).take (((vS way).length : Nat) : Int).toNat ++ [[.st s]] = vS (way ++ [s]) := by rw [List.take_of_length_le (by omega)]; exact hwo
    have hmap : (out1.map encN ++ [encN (nodV (rdS d) way n s)]) = (out1 ++ [(nodV (rdS d) way n s)]).map encN := by rw [List.map_append]; rfl
    have hE : out1.length = 64 → G .ret ⟨[], E2 Tryz.f8 Tryz.f60 rgD d n (.fs 1 (vS way)) v0 v1 (tm1 (out1.map encN)), 28⟩ := fun h => by
      have := hB (by rw [← hT, List.length_append, List.length_cons]; omega)
      rw [← hT, List.take_left' h] at this
      exact this
    have hT2 : (inoAt (rdS d) (mOf (rdS d) n s)).k = 2 → ((out1 ++ [(nodV (rdS d) way n s)]) ++ subV (rdS d) 1 (mOf (rdS d) n s) (way ++ [s])) ++ subL (rdS d) 1 n way ((nms (rdS d) n).drop (k + 1)) = out ++ subV (rdS d) 2 n way := fun h => by
      rw [← hT, if_pos h]; simp only [List.append_assoc, List.cons_append, List.nil_append]
    have hT3 : ¬ (inoAt (rdS d) (mOf (rdS d) n s)).k = 2 → (out1 ++ [(nodV (rdS d) way n s)]) ++ subL (rdS d) 1 n way ((nms (rdS d) n).drop (k + 1)) = out ++ subV (rdS d) 2 n way := fun h => by
      rw [← hT, if_neg h]; simp only [List.append_assoc, List.cons_append, List.nil_append]
    have hE2 : (inoAt (rdS d) (mOf (rdS d) n s)).k = 2 → ¬ ((out1 ++ [(nodV (rdS d) way n s)]) ++ subV (rdS d) 1 (mOf (rdS d) n s) (way ++ [s])).length ≤ 64 → G .ret ⟨[], E2 Tryz.f8 Tryz.f60 rgD d n (.fs 1 (vS way)) v0 v1 (tm1 ((((out1 ++ [(nodV (rdS d) way n s)]) ++ subV (rdS d) 1 (mOf (rdS d) n s) (way ++ [s])).take 64).map encN)), 28⟩ := fun h h2 => by
      have := hB (by rw [← hT2 h, List.length_append]; omega)
      rw [← hT2 h, List.take_append_of_le_length (by omega)] at this
      exact this
    have hmu : (nms (rdS d) n).length - (k + 1) < (nms (rdS d) n).length - k := by omega
    clear hT hB
    (repeat' ((conv=>whnf);first|with_reducible refine gA ?_|((with_reducible refine callE_id ?_); first | refine CallE.con ⟨_, hf, ?_⟩ | refine CallE.con ⟨_, he, ?_⟩ | refine CallE.con ⟨_, hi, ?_⟩ | refine CallE.con ⟨_, hj, ?_⟩ | refine CallE.con ⟨_, hda, ?_⟩ | refine CallE.inl ?_) | refine CallP.mk ⟨_, hj, ?_⟩ | refine CallP.mk ⟨_, hda, ?_⟩|(with_reducible first|refine gB0 ?_|refine gZ (fun x hx hu=>?_)|refine gY (fun x hx=>?_)|refine gE ?_|refine Both.mk ?_ ?_|refine gS (fun h=>?_) (fun h=>?_)|refine Spl.nt ?_|refine Spl.mk (fun h=>?_) (fun h=>?_))))
    refine DrawS.wk (τ := ⟨(9, .d (.it .i64 (mOf (rdS d) n s))) :: (10, .ptr 29 0) :: (11, .d (.fs 1 (vS (way ++ [s])))) :: slI 23 24 25 28 (nms (rdS d) n) k, (30, .tag 29 50) :: (29, .cells 6 ((encI (inoAt (rdS d) (mOf (rdS d) n s))).map .d)) :: (28, .cells 1 [.yld 27]) :: E2 Tryz.f8 Tryz.f60 rgL d n (.fs 1 (vS way)) v0 v1 (tm0 (out1.map encN)), 31⟩) ?_ ?_
    · exact Wk.vwL (by (repeat (first | exact trivial | refine And.intro (Vw.eq rfl) ?_ | refine And.intro (Vw.ts' hwo2) ?_))) (by (repeat (first | exact trivial | refine And.intro (VwO.same _) ?_))) rfl
    (repeat' ((conv=>whnf);first|with_reducible refine gA ?_|((with_reducible refine callE_id ?_); first | refine CallE.con ⟨_, hf, ?_⟩ | refine CallE.con ⟨_, he, ?_⟩ | refine CallE.con ⟨_, hi, ?_⟩ | refine CallE.con ⟨_, hj, ?_⟩ | refine CallE.con ⟨_, hda, ?_⟩ | refine CallE.inl ?_) | refine CallP.mk ⟨_, hj, ?_⟩ | refine CallP.mk ⟨_, hda, ?_⟩|(with_reducible first|refine gB ?_|refine gZ (fun x hx hu=>?_)|refine gY (fun x hx=>?_)|refine gE ?_|refine Both.mk ?_ ?_|refine gS (fun h=>?_) (fun h=>?_)|refine Spl.nt ?_|refine Spl.mk (fun h=>?_) (fun h=>?_))))
    refine YieldI.post ?_
    refine YieldI.intro ti_ok (by with_unfolding_all exact rfl) (by with_unfolding_all exact rfl) (by with_unfolding_all exact rfl) ?_
    (repeat' ((conv=>whnf);first|with_reducible refine gA ?_|with_reducible refine YieldI.intro ti_ok (by with_unfolding_all exact rfl) (by with_unfolding_all exact rfl) (by with_unfolding_all exact rfl) ?_|(with_reducible first|refine gB ?_|refine gZ (fun x hx hu=>?_)|refine gY (fun x hx=>?_)|refine gE ?_|refine Both.mk ?_ ?_|refine gS (fun h=>?_) (fun h=>?_)|refine Spl.nt ?_|refine Spl.mk (fun h=>?_) (fun h=>?_))))
    · refine ⟨⟨[(57, .d (.bl false))], E2 Tryz.f8 Tryz.f60 rgD d n (.fs 1 (vS way)) v0 v1 (tm1 (out1.map encN)), 29⟩, Wk.enF (by (repeat (first | exact trivial | refine And.intro rfl ?_))) (by (repeat (first | exact trivial | refine And.intro (obw_eq rfl (by with_unfolding_all exact rfl)) ?_ | refine And.intro (obw_fr (by with_unfolding_all exact rfl) (by (repeat (first | exact trivial | refine And.intro (by with_unfolding_all exact rfl) ?_)))) ?_))) rfl, ?_⟩
      (repeat' ((conv=>whnf);first|with_reducible refine gA ?_|(with_reducible first|refine gB ?_|refine gZ (fun x hx hu=>?_)|refine gY (fun x hx=>?_)|refine gE ?_|refine Both.mk ?_ ?_|refine gS (fun h=>?_) (fun h=>?_)|refine Spl.nt ?_|refine Spl.mk (fun h=>?_) (fun h=>?_))))
      exact ⟨⟨[], E2 Tryz.f8 Tryz.f60 rgD d n (.fs 1 (vS way)) v0 v1 (tm1 (out1.map encN)), 28⟩, Wk.enF trivial (by (repeat (first | exact trivial | refine And.intro (obw_eq rfl (by with_unfolding_all exact rfl)) ?_ | refine And.intro (obw_fr (by with_unfolding_all exact rfl) (by (repeat (first | exact trivial | refine And.intro (by with_unfolding_all exact rfl) ?_)))) ?_))) rfl, hE (by omega)⟩
    · have hlo : (out1 ++ [(nodV (rdS d) way n s)]).length ≤ 64 := by rw [List.length_append, List.length_singleton]; omega
      refine ⟨⟨(57, .d (.bl true)) :: (9, .d (.it .i64 (mOf (rdS d) n s))) :: (10, .ptr 29 0) :: (11, .d (.fs 1 (vS (way ++ [s])))) :: slI 23 24 25 28 (nms (rdS d) n) k, (30, .tag 29 50) :: (29, .cells 6 ((encI (inoAt (rdS d) (mOf (rdS d) n s))).map .d)) :: (28, .cells 1 [.yld 27]) :: E2 Tryz.f8 Tryz.f60 rgL d n (.fs 1 (vS way)) v0 v1 (tm0 (out1.map encN ++ [encN (nodV (rdS d) way n s)])), 31⟩, Wk.enF (by (repeat (first | exact trivial | refine And.intro rfl ?_))) (by (repeat (first | exact trivial | refine And.intro (obw_eq rfl (by with_unfolding_all exact rfl)) ?_ | refine And.intro (obw_fr (by with_unfolding_all exact rfl) (by (repeat (first | exact trivial | refine And.intro (by with_unfolding_all exact rfl) ?_)))) ?_))) rfl, ?_⟩
      by_cases hk2 : (inoAt (rdS d) (mOf (rdS d) n s)).k = 2
      · (repeat' ((conv=>whnf);first|with_reducible refine gA ?_|((with_reducible refine callE_id ?_); refine CallE.inl ?_) | with_reducible refine CallI.inl ti_ok i28 rfl ?_|(with_reducible first|refine gB ?_|refine gZ (fun x hx hu=>?_)|refine gY (fun x hx=>?_)|refine gE ?_|refine Both.mk ?_ ?_|refine gS (fun h=>?_) (fun h=>?_)|refine Spl.nt ?_|refine Spl.mk (fun h=>?_) (fun h=>?_))))
        conv => whnf
        refine RangeS.wk (τ := ⟨slI 23 24 25 28 (nms (rdS d) n) k ++ [(65, clo 32 33 34)], c3 d (mOf (rdS d) n s) (.fs 1 (vS (way ++ [s]))) 32 33 34 ++ (28, .cells 1 [.yld 27]) :: E2 Tryz.f8 Tryz.f60 rgL d n (.fs 1 (vS way)) v0 v1 (tm0 (out1.map encN ++ [encN (nodV (rdS d) way n s)])), 35⟩) (Wk.enF (by (repeat (first | exact trivial | refine And.intro rfl ?_))) (by (repeat (first | exact trivial | refine And.intro (obw_eq rfl (by with_unfolding_all exact rfl)) ?_ | refine And.intro (obw_fr (by with_unfolding_all exact rfl) (by (repeat (first | exact trivial | refine And.intro (by with_unfolding_all exact rfl) ?_)))) ?_))) rfl) ?_
        refine RangeS.introW ti_ok i60 rfl rfl (lvl3 d hd v0 v1 ⟨nms (rdS d) n, k, n, .fs 1 (vS way)⟩ (mOf (rdS d) n s) (way ++ [s]) hw2 hwn2 (out1 ++ [(nodV (rdS d) way n s)]) hlo (out1.map encN ++ [encN (nodV (rdS d) way n s)]) hmap _ ?_ ?_ ?_)
        · intro h2
          (repeat' ((conv=>whnf);first|with_reducible refine gA ?_|(with_reducible first|refine gB ?_|refine gZ (fun x hx hu=>?_)|refine gY (fun x hx=>?_)|refine gE ?_|refine Both.mk ?_ ?_|refine gS (fun h=>?_) (fun h=>?_)|refine Spl.nt ?_|refine Spl.mk (fun h=>?_) (fun h=>?_))))
          exact ⟨(k + 1, (out1 ++ [(nodV (rdS d) way n s)]) ++ subV (rdS d) 1 (mOf (rdS d) n s) (way ++ [s])), ⟨hkl, h2, hT2 hk2⟩, by dsimp only; omega, Wk.enF (And.intro rfl (And.intro rfl (And.intro rfl (And.intro rfl (And.intro rfl (And.intro rfl (And.intro (it_eq (by first | omega | (dsimp only; omega))) trivial))))))) (by (repeat (first | exact trivial | refine And.intro (obw_eq rfl (by with_unfolding_all exact rfl)) ?_ | refine And.intro (obw_fr (by with_unfolding_all exact rfl) (by (repeat (first | exact trivial | refine And.intro (by with_unfolding_all exact rfl) ?_)))) ?_))) rfl⟩
        · intro h2
          (repeat' ((conv=>whnf);first|with_reducible refine gA ?_|(with_reducible first|refine gB ?_|refine gZ (fun x hx hu=>?_)|refine gY (fun x hx=>?_)|refine gE ?_|refine Both.mk ?_ ?_|refine gS (fun h=>?_) (fun h=>?_)|refine Spl.nt ?_|refine Spl.mk (fun h=>?_) (fun h=>?_))))
          exact ⟨(k + 1, (out1 ++ [(nodV (rdS d) way n s)]) ++ subV (rdS d) 1 (mOf (rdS d) n s) (way ++ [s])), ⟨hkl, h2, hT2 hk2⟩, by dsimp only; omega, Wk.enF (And.intro rfl (And.intro rfl (And.intro rfl (And.intro rfl (And.intro rfl (And.intro rfl (And.intro (it_eq (by first | omega | (dsimp only; omega))) trivial))))))) (by (repeat (first | exact trivial | refine And.intro (obw_eq rfl (by with_unfolding_all exact rfl)) ?_ | refine And.intro (obw_fr (by with_unfolding_all exact rfl) (by (repeat (first | exact trivial | refine And.intro (by with_unfolding_all exact rfl) ?_)))) ?_))) rfl⟩
        · intro h2
          (repeat' ((conv=>whnf);first|with_reducible refine gA ?_|(with_reducible first|refine gB ?_|refine gZ (fun x hx hu=>?_)|refine gY (fun x hx=>?_)|refine gE ?_|refine Both.mk ?_ ?_|refine gS (fun h=>?_) (fun h=>?_)|refine Spl.nt ?_|refine Spl.mk (fun h=>?_) (fun h=>?_))))
          exact ⟨⟨[], E2 Tryz.f8 Tryz.f60 rgD d n (.fs 1 (vS way)) v0 v1 (tm1 ((((out1 ++ [(nodV (rdS d) way n s)]) ++ subV (rdS d) 1 (mOf (rdS d) n s) (way ++ [s])).take 64).map encN)), 28⟩, Wk.enF trivial (by (repeat (first | exact trivial | refine And.intro (obw_eq rfl (by with_unfolding_all exact rfl)) ?_ | refine And.intro (obw_fr (by with_unfolding_all exact rfl) (by (repeat (first | exact trivial | refine And.intro (by with_unfolding_all exact rfl) ?_)))) ?_))) rfl, hE2 hk2 h2⟩
      · (repeat' ((conv=>whnf);first|with_reducible refine gA ?_|(with_reducible first|refine gB ?_|refine gZ (fun x hx hu=>?_)|refine gY (fun x hx=>?_)|refine gE ?_|refine Both.mk ?_ ?_|refine gS (fun h=>?_) (fun h=>?_)|refine Spl.nt ?_|refine Spl.mk (fun h=>?_) (fun h=>?_))))
        exact ⟨(k + 1, out1 ++ [(nodV (rdS d) way n s)]), ⟨hkl, hlo, hT3 hk2⟩, hmu, wk_tr (congrArg (fun O => (⟨slI 23 24 25 28 (nms (rdS d) n) (k + 1), (28, .cells 1 [.yld 27]) :: E2 Tryz.f8 Tryz.f60 rgL d n (.fs 1 (vS way)) v0 v1 (tm0 O), 29⟩ : S)) hmap) (Wk.enF (And.intro rfl (And.intro rfl (And.intro rfl (And.intro rfl (And.intro rfl (And.intro rfl (And.intro (it_eq (by first | omega | (dsimp only; omega))) trivial))))))) (by (repeat (first | exact trivial | refine And.intro (obw_eq rfl (by with_unfolding_all exact rfl)) ?_ | refine And.intro (obw_fr (by with_unfolding_all exact rfl) (by (repeat (first | exact trivial | refine And.intro (by with_unfolding_all exact rfl) ?_)))) ?_))) rfl)⟩
  · have hN : G .normal ⟨[], E2 Tryz.f8 Tryz.f60 rgL d n (.fs 1 (vS way)) v0 v1 (tm0 (out1.map encN)), 28⟩ := by
      have e : out1 = out ++ subV (rdS d) 2 n way := by
        rw [← hT, List.drop_of_length_le hkl]; exact (List.append_nil _).symm
      have := hA2 (by rw [← e]; exact ho1)
      rw [← e] at this
      exact this
    (repeat' ((conv=>whnf);first|with_reducible refine gA ?_|(with_reducible first|refine gB ?_|refine gZ (fun x hx hu=>?_)|refine gY (fun x hx=>?_)|refine gE ?_|refine Both.mk ?_ ?_|refine gS (fun h=>?_) (fun h=>?_)|refine Spl.nt ?_|refine Spl.mk (fun h=>?_) (fun h=>?_))))
    exact ⟨⟨[], E2 Tryz.f8 Tryz.f60 rgL d n (.fs 1 (vS way)) v0 v1 (tm0 (out1.map encN)), 28⟩, Wk.enF trivial (by (repeat (first | exact trivial | refine And.intro (obw_eq rfl (by with_unfolding_all exact rfl)) ?_ | refine And.intro (obw_fr (by with_unfolding_all exact rfl) (by (repeat (first | exact trivial | refine And.intro (by with_unfolding_all exact rfl) ?_)))) ?_))) rfl, hN⟩
end Go.Proofs.YtijdbjjkfkjihaaGreatDoor

/- The tree of a disk: the second level. Conditions: none. -/
namespace Go.Proofs.YtijdbjjkfkjihaaGreatDoor
open Go.Sy
set_option maxRecDepth 100000
set_option linter.all false
set_option maxHeartbeats 16000000 in
theorem lvl1 (d : Option Dk) (hd : DkOK d) (v0 : Lv) (n : Int) (way : List (List UInt8)) (hw : way.length = 1) (hwn : ∀ s ∈ way, s.length ≤ 8) (out : List Nod) (ho : out.length ≤ 64) (O : List (List D)) (hO : O = out.map encN) (G : Exit → S → Prop)
    (hA1 : (out ++ subV (rdS d) 3 n way).length ≤ 64 → G .ret ⟨[], E1 Tryz.f8 Tryz.f60 rgL d n (.fs 1 (vS way)) v0 (tm0 ((out ++ subV (rdS d) 3 n way).map encN)), 19⟩) (hA2 : (out ++ subV (rdS d) 3 n way).length ≤ 64 → G .normal ⟨[], E1 Tryz.f8 Tryz.f60 rgL d n (.fs 1 (vS way)) v0 (tm0 ((out ++ subV (rdS d) 3 n way).map encN)), 19⟩) (hB : ¬ (out ++ subV (rdS d) 3 n way).length ≤ 64 → G .ret ⟨[], E1 Tryz.f8 Tryz.f60 rgD d n (.fs 1 (vS way)) v0 (tm1 (((out ++ subV (rdS d) 3 n way).take 64).map encN)), 19⟩) :
    vc Tryz.prog ti 72 (bd Tryz.f60) (fun e υ => ∃ τ, Wk 72 υ τ ∧ G e τ) ⟨idx 0 [.yld 18, .ptr 16 0, .ptr 14 0, .ptr 15 0], E1 Tryz.f8 Tryz.f60 rgL d n (.fs 1 (vS way)) v0 (tm0 O), 19⟩ := by
  have hwl : (vS way).length = way.length := List.length_map ..
  have hnl : (vS (nms (rdS d) n)).length = (nms (rdS d) n).length := List.length_map ..
  have hls := list_ok d hd n
  have hkb := nms_len (rdS d) n
  subst hO
  (repeat' ((conv=>whnf);first|with_reducible refine gA ?_|((with_reducible refine callE_id ?_); refine CallE.con ⟨_, hls, ?_⟩)|(with_reducible first|refine gB ?_|refine gZ (fun x hx hu=>?_)|refine gY (fun x hx=>?_)|refine gE ?_|refine Both.mk ?_ ?_|refine gS (fun h=>?_) (fun h=>?_)|refine Spl.nt ?_|refine Spl.mk (fun h=>?_) (fun h=>?_))))
  conv => whnf
  refine LoopS.wk (τ := ⟨slI 14 15 16 19 (nms (rdS d) n) 0, (19, .cells 1 [.yld 18]) :: E1 Tryz.f8 Tryz.f60 rgL d n (.fs 1 (vS way)) v0 (tm0 (out.map encN)), 20⟩) (Wk.enF (by (repeat (first | exact trivial | refine And.intro rfl ?_))) (by (repeat (first | exact trivial | refine And.intro (obw_eq rfl (by with_unfolding_all exact rfl)) ?_ | refine And.intro (obw_fr (by with_unfolding_all exact rfl) (by (repeat (first | exact trivial | refine And.intro (by with_unfolding_all exact rfl) ?_)))) ?_))) rfl) ?_
  refine loop_ruleW ti_ok (fun x : Nat × List Nod => x.1 ≤ (nms (rdS d) n).length ∧ x.2.length ≤ 64 ∧ x.2 ++ subL (rdS d) 2 n way ((nms (rdS d) n).drop x.1) = out ++ subV (rdS d) 3 n way) (fun x : Nat × List Nod => ⟨slI 14 15 16 19 (nms (rdS d) n) x.1, (19, .cells 1 [.yld 18]) :: E1 Tryz.f8 Tryz.f60 rgL d n (.fs 1 (vS way)) v0 (tm0 (x.2.map encN)), 20⟩) (fun x => (nms (rdS d) n).length - x.1) (0, out) ⟨Nat.zero_le _, ho, rfl⟩ (Wk.en ⟨by (repeat (first | exact trivial | refine And.intro rfl ?_)), by (repeat (first | exact trivial | refine And.intro rfl ?_)), rfl⟩) ?_
  intro ⟨k, out1⟩ ⟨k1, ho1, hT⟩
  dsimp only at k1 ho1 hT
  have hol : (out1.map encN).length = out1.length := List.length_map ..
  rcases Nat.lt_or_ge k (nms (rdS d) n).length with hkl | hkl
  · obtain ⟨s, hs⟩ := lt_get hkl
    have hx : (vS (nms (rdS d) n))[k]? = some [.st s] := by unfold vS; rw [List.getElem?_map, hs]; rfl
    have hsn := name_len (nms_name (rdS d) n s (List.mem_of_getElem? hs))
    have hwn2 : ∀ t ∈ way ++ [s], t.length ≤ 8 := fun t ht => by
      rcases List.mem_append.1 ht with ht | ht
      · exact hwn t ht
      · rw [List.mem_singleton.1 ht]; exact hsn
    have hw2 : (way ++ [s]).length = 2 := by rw [List.length_append, hw]; rfl
    have hf := find_ok d hd n s
    rw [fndV_eq] at hf
    have he := entry_ok d hd (kOf (rdS d) n s)
    have hi := inode_ok d hd (mOf (rdS d) n s)
    have hj := join_way (way ++ [s]) hwn2 (by omega) (by simp)
    have hda := data_ok d hd (inoAt (rdS d) (mOf (rdS d) n s)) (inoAt_RI _ _)
    rw [drop_at hs, subL_cons] at hT
    have hwo : vS way ++ [[.st s]] = vS (way ++ [s]) := by unfold vS; rw [List.map_append]; rfl
    have htk : (List.take (((vS way).length : Nat) : Int).toNat (vS way)).length ≤ 4 := by rw [List.length_take]; omega
    have hvl : (vS (way ++ [s])).length = 2 := by unfold vS; rw [List.length_map]; exact hw2
    have hwo2 : (vS way).take (((vS way).length : Nat) : Int).toNat ++ [[.st s]] = vS (way ++ [s]) := by rw [List.take_of_length_le (by omega)]; exact hwo
    have hmap : (out1.map encN ++ [encN (nodV (rdS d) way n s)]) = (out1 ++ [(nodV (rdS d) way n s)]).map encN := by rw [List.map_append]; rfl
    have hE : out1.length = 64 → G .ret ⟨[], E1 Tryz.f8 Tryz.f60 rgD d n (.fs 1 (vS way)) v0 (tm1 (out1.map encN)), 19⟩ := fun h => by
      have := hB (by rw [← hT, List.length_append, List.length_cons]; omega)
      rw [← hT, List.take_left' h] at this
      exact this
    have hT2 : (inoAt (rdS d) (mOf (rdS d) n s)).k = 2 → ((out1 ++ [(nodV (rdS d) way n s)]) ++ subV (rdS d) 2 (mOf (rdS d) n s) (way ++ [s])) ++ subL (rdS d) 2 n way ((nms (rdS d) n).drop (k + 1)) = out ++ subV (rdS d) 3 n way := fun h => by
      rw [← hT, if_pos h]; simp only [List.append_assoc, List.cons_append, List.nil_append]
    have hT3 : ¬ (inoAt (rdS d) (mOf (rdS d) n s)).k = 2 → (out1 ++ [(nodV (rdS d) way n s)]) ++ subL (rdS d) 2 n way ((nms (rdS d) n).drop (k + 1)) = out ++ subV (rdS d) 3 n way := fun h => by
      rw [← hT, if_neg h]; simp only [List.append_assoc, List.cons_append, List.nil_append]
    have hE2 : (inoAt (rdS d) (mOf (rdS d) n s)).k = 2 → ¬ ((out1 ++ [(nodV (rdS d) way n s)]) ++ subV (rdS d) 2 (mOf (rdS d) n s) (way ++ [s])).length ≤ 64 → G .ret ⟨[], E1 Tryz.f8 Tryz.f60 rgD d n (.fs 1 (vS way)) v0 (tm1 ((((out1 ++ [(nodV (rdS d) way n s)]) ++ subV (rdS d) 2 (mOf (rdS d) n s) (way ++ [s])).take 64).map encN)), 19⟩ := fun h h2 => by
      have := hB (by rw [← hT2 h, List.length_append]; omega)
      rw [← hT2 h, List.take_append_of_le_length (by omega)] at this
      exact this
    have hmu : (nms (rdS d) n).length - (k + 1) < (nms (rdS d) n).length - k := by omega
    clear hT hB
    (repeat' ((conv=>whnf);first|with_reducible refine gA ?_|((with_reducible refine callE_id ?_); first | refine CallE.con ⟨_, hf, ?_⟩ | refine CallE.con ⟨_, he, ?_⟩ | refine CallE.con ⟨_, hi, ?_⟩ | refine CallE.con ⟨_, hj, ?_⟩ | refine CallE.con ⟨_, hda, ?_⟩ | refine CallE.inl ?_) | refine CallP.mk ⟨_, hj, ?_⟩ | refine CallP.mk ⟨_, hda, ?_⟩|(with_reducible first|refine gB0 ?_|refine gZ (fun x hx hu=>?_)|refine gY (fun x hx=>?_)|refine gE ?_|refine Both.mk ?_ ?_|refine gS (fun h=>?_) (fun h=>?_)|refine Spl.nt ?_|refine Spl.mk (fun h=>?_) (fun h=>?_))))
    refine DrawS.wk (τ := ⟨(9, .d (.it .i64 (mOf (rdS d) n s))) :: (10, .ptr 20 0) :: (11, .d (.fs 1 (vS (way ++ [s])))) :: slI 14 15 16 19 (nms (rdS d) n) k, (21, .tag 20 50) :: (20, .cells 6 ((encI (inoAt (rdS d) (mOf (rdS d) n s))).map .d)) :: (19, .cells 1 [.yld 18]) :: E1 Tryz.f8 Tryz.f60 rgL d n (.fs 1 (vS way)) v0 (tm0 (out1.map encN)), 22⟩) ?_ ?_
    · exact Wk.vwL (by (repeat (first | exact trivial | refine And.intro (Vw.eq rfl) ?_ | refine And.intro (Vw.ts' hwo2) ?_))) (by (repeat (first | exact trivial | refine And.intro (VwO.same _) ?_))) rfl
    (repeat' ((conv=>whnf);first|with_reducible refine gA ?_|((with_reducible refine callE_id ?_); first | refine CallE.con ⟨_, hf, ?_⟩ | refine CallE.con ⟨_, he, ?_⟩ | refine CallE.con ⟨_, hi, ?_⟩ | refine CallE.con ⟨_, hj, ?_⟩ | refine CallE.con ⟨_, hda, ?_⟩ | refine CallE.inl ?_) | refine CallP.mk ⟨_, hj, ?_⟩ | refine CallP.mk ⟨_, hda, ?_⟩|(with_reducible first|refine gB ?_|refine gZ (fun x hx hu=>?_)|refine gY (fun x hx=>?_)|refine gE ?_|refine Both.mk ?_ ?_|refine gS (fun h=>?_) (fun h=>?_)|refine Spl.nt ?_|refine Spl.mk (fun h=>?_) (fun h=>?_))))
    refine YieldI.post ?_
    refine YieldI.intro ti_ok (by with_unfolding_all exact rfl) (by with_unfolding_all exact rfl) (by with_unfolding_all exact rfl) ?_
    (repeat' ((conv=>whnf);first|with_reducible refine gA ?_|with_reducible refine YieldI.intro ti_ok (by with_unfolding_all exact rfl) (by with_unfolding_all exact rfl) (by with_unfolding_all exact rfl) ?_|(with_reducible first|refine gB ?_|refine gZ (fun x hx hu=>?_)|refine gY (fun x hx=>?_)|refine gE ?_|refine Both.mk ?_ ?_|refine gS (fun h=>?_) (fun h=>?_)|refine Spl.nt ?_|refine Spl.mk (fun h=>?_) (fun h=>?_))))
    · refine ⟨⟨[(57, .d (.bl false))], E1 Tryz.f8 Tryz.f60 rgD d n (.fs 1 (vS way)) v0 (tm1 (out1.map encN)), 20⟩, Wk.enF (by (repeat (first | exact trivial | refine And.intro rfl ?_))) (by (repeat (first | exact trivial | refine And.intro (obw_eq rfl (by with_unfolding_all exact rfl)) ?_ | refine And.intro (obw_fr (by with_unfolding_all exact rfl) (by (repeat (first | exact trivial | refine And.intro (by with_unfolding_all exact rfl) ?_)))) ?_))) rfl, ?_⟩
      (repeat' ((conv=>whnf);first|with_reducible refine gA ?_|(with_reducible first|refine gB ?_|refine gZ (fun x hx hu=>?_)|refine gY (fun x hx=>?_)|refine gE ?_|refine Both.mk ?_ ?_|refine gS (fun h=>?_) (fun h=>?_)|refine Spl.nt ?_|refine Spl.mk (fun h=>?_) (fun h=>?_))))
      exact ⟨⟨[], E1 Tryz.f8 Tryz.f60 rgD d n (.fs 1 (vS way)) v0 (tm1 (out1.map encN)), 19⟩, Wk.enF trivial (by (repeat (first | exact trivial | refine And.intro (obw_eq rfl (by with_unfolding_all exact rfl)) ?_ | refine And.intro (obw_fr (by with_unfolding_all exact rfl) (by (repeat (first | exact trivial | refine And.intro (by with_unfolding_all exact rfl) ?_)))) ?_))) rfl, hE (by omega)⟩
    · have hlo : (out1 ++ [(nodV (rdS d) way n s)]).length ≤ 64 := by rw [List.length_append, List.length_singleton]; omega
      refine ⟨⟨(57, .d (.bl true)) :: (9, .d (.it .i64 (mOf (rdS d) n s))) :: (10, .ptr 20 0) :: (11, .d (.fs 1 (vS (way ++ [s])))) :: slI 14 15 16 19 (nms (rdS d) n) k, (21, .tag 20 50) :: (20, .cells 6 ((encI (inoAt (rdS d) (mOf (rdS d) n s))).map .d)) :: (19, .cells 1 [.yld 18]) :: E1 Tryz.f8 Tryz.f60 rgL d n (.fs 1 (vS way)) v0 (tm0 (out1.map encN ++ [encN (nodV (rdS d) way n s)])), 22⟩, Wk.enF (by (repeat (first | exact trivial | refine And.intro rfl ?_))) (by (repeat (first | exact trivial | refine And.intro (obw_eq rfl (by with_unfolding_all exact rfl)) ?_ | refine And.intro (obw_fr (by with_unfolding_all exact rfl) (by (repeat (first | exact trivial | refine And.intro (by with_unfolding_all exact rfl) ?_)))) ?_))) rfl, ?_⟩
      by_cases hk2 : (inoAt (rdS d) (mOf (rdS d) n s)).k = 2
      · (repeat' ((conv=>whnf);first|with_reducible refine gA ?_|((with_reducible refine callE_id ?_); refine CallE.inl ?_) | with_reducible refine CallI.inl ti_ok i28 rfl ?_|(with_reducible first|refine gB ?_|refine gZ (fun x hx hu=>?_)|refine gY (fun x hx=>?_)|refine gE ?_|refine Both.mk ?_ ?_|refine gS (fun h=>?_) (fun h=>?_)|refine Spl.nt ?_|refine Spl.mk (fun h=>?_) (fun h=>?_))))
        conv => whnf
        refine RangeS.wk (τ := ⟨slI 14 15 16 19 (nms (rdS d) n) k ++ [(65, clo 23 24 25)], c3 d (mOf (rdS d) n s) (.fs 1 (vS (way ++ [s]))) 23 24 25 ++ (19, .cells 1 [.yld 18]) :: E1 Tryz.f8 Tryz.f60 rgL d n (.fs 1 (vS way)) v0 (tm0 (out1.map encN ++ [encN (nodV (rdS d) way n s)])), 26⟩) (Wk.enF (by (repeat (first | exact trivial | refine And.intro rfl ?_))) (by (repeat (first | exact trivial | refine And.intro (obw_eq rfl (by with_unfolding_all exact rfl)) ?_ | refine And.intro (obw_fr (by with_unfolding_all exact rfl) (by (repeat (first | exact trivial | refine And.intro (by with_unfolding_all exact rfl) ?_)))) ?_))) rfl) ?_
        refine RangeS.introW ti_ok i60 rfl rfl (lvl2 d hd v0 ⟨nms (rdS d) n, k, n, .fs 1 (vS way)⟩ (mOf (rdS d) n s) (way ++ [s]) hw2 hwn2 (out1 ++ [(nodV (rdS d) way n s)]) hlo (out1.map encN ++ [encN (nodV (rdS d) way n s)]) hmap _ ?_ ?_ ?_)
        · intro h2
          (repeat' ((conv=>whnf);first|with_reducible refine gA ?_|(with_reducible first|refine gB ?_|refine gZ (fun x hx hu=>?_)|refine gY (fun x hx=>?_)|refine gE ?_|refine Both.mk ?_ ?_|refine gS (fun h=>?_) (fun h=>?_)|refine Spl.nt ?_|refine Spl.mk (fun h=>?_) (fun h=>?_))))
          exact ⟨(k + 1, (out1 ++ [(nodV (rdS d) way n s)]) ++ subV (rdS d) 2 (mOf (rdS d) n s) (way ++ [s])), ⟨hkl, h2, hT2 hk2⟩, by dsimp only; omega, Wk.enF (And.intro rfl (And.intro rfl (And.intro rfl (And.intro rfl (And.intro rfl (And.intro rfl (And.intro (it_eq (by first | omega | (dsimp only; omega))) trivial))))))) (by (repeat (first | exact trivial | refine And.intro (obw_eq rfl (by with_unfolding_all exact rfl)) ?_ | refine And.intro (obw_fr (by with_unfolding_all exact rfl) (by (repeat (first | exact trivial | refine And.intro (by with_unfolding_all exact rfl) ?_)))) ?_))) rfl⟩
        · intro h2
          (repeat' ((conv=>whnf);first|with_reducible refine gA ?_|(with_reducible first|refine gB ?_|refine gZ (fun x hx hu=>?_)|refine gY (fun x hx=>?_)|refine gE ?_|refine Both.mk ?_ ?_|refine gS (fun h=>?_) (fun h=>?_)|refine Spl.nt ?_|refine Spl.mk (fun h=>?_) (fun h=>?_))))
          exact ⟨(k + 1, (out1 ++ [(nodV (rdS d) way n s)]) ++ subV (rdS d) 2 (mOf (rdS d) n s) (way ++ [s])), ⟨hkl, h2, hT2 hk2⟩, by dsimp only; omega, Wk.enF (And.intro rfl (And.intro rfl (And.intro rfl (And.intro rfl (And.intro rfl (And.intro rfl (And.intro (it_eq (by first | omega | (dsimp only; omega))) trivial))))))) (by (repeat (first | exact trivial | refine And.intro (obw_eq rfl (by with_unfolding_all exact rfl)) ?_ | refine And.intro (obw_fr (by with_unfolding_all exact rfl) (by (repeat (first | exact trivial | refine And.intro (by with_unfolding_all exact rfl) ?_)))) ?_))) rfl⟩
        · intro h2
          (repeat' ((conv=>whnf);first|with_reducible refine gA ?_|(with_reducible first|refine gB ?_|refine gZ (fun x hx hu=>?_)|refine gY (fun x hx=>?_)|refine gE ?_|refine Both.mk ?_ ?_|refine gS (fun h=>?_) (fun h=>?_)|refine Spl.nt ?_|refine Spl.mk (fun h=>?_) (fun h=>?_))))
          exact ⟨⟨[], E1 Tryz.f8 Tryz.f60 rgD d n (.fs 1 (vS way)) v0 (tm1 ((((out1 ++ [(nodV (rdS d) way n s)]) ++ subV (rdS d) 2 (mOf (rdS d) n s) (way ++ [s])).take 64).map encN)), 19⟩, Wk.enF trivial (by (repeat (first | exact trivial | refine And.intro (obw_eq rfl (by with_unfolding_all exact rfl)) ?_ | refine And.intro (obw_fr (by with_unfolding_all exact rfl) (by (repeat (first | exact trivial | refine And.intro (by with_unfolding_all exact rfl) ?_)))) ?_))) rfl, hE2 hk2 h2⟩
      · (repeat' ((conv=>whnf);first|with_reducible refine gA ?_|(with_reducible first|refine gB ?_|refine gZ (fun x hx hu=>?_)|refine gY (fun x hx=>?_)|refine gE ?_|refine Both.mk ?_ ?_|refine gS (fun h=>?_) (fun h=>?_)|refine Spl.nt ?_|refine Spl.mk (fun h=>?_) (fun h=>?_))))
        exact ⟨(k + 1, out1 ++ [(nodV (rdS d) way n s)]), ⟨hkl, hlo, hT3 hk2⟩, hmu, wk_tr (congrArg (fun O => (⟨slI 14 15 16 19 (nms (rdS d) n) (k + 1), (19, .cells 1 [.yld 18]) :: E1 Tryz.f8 Tryz.f60 rgL d n (.fs 1 (vS way)) v0 (tm0 O), 20⟩ : S)) hmap) (Wk.enF (And.intro rfl (And.intro rfl (And.intro rfl (And.intro rfl (And.intro rfl (And.intro rfl (And.intro (it_eq (by first | omega | (dsimp only; omega))) trivial))))))) (by (repeat (first | exact trivial | refine And.intro (obw_eq rfl (by with_unfolding_all exact rfl)) ?_ | refine And.intro (obw_fr (by with_unfolding_all exact rfl) (by (repeat (first | exact trivial | refine And.intro (by with_unfolding_all exact rfl) ?_)))) ?_))) rfl)⟩
  · have hN : G .normal ⟨[], E1 Tryz.f8 Tryz.f60 rgL d n (.fs 1 (vS way)) v0 (tm0 (out1.map encN)), 19⟩ := by
      have e : out1 = out ++ subV (rdS d) 3 n way := by
        rw [← hT, List.drop_of_length_le hkl]; exact (List.append_nil _).symm
      have := hA2 (by rw [← e]; exact ho1)
      rw [← e] at this
      exact this
    (repeat' ((conv=>whnf);first|with_reducible refine gA ?_|(with_reducible first|refine gB ?_|refine gZ (fun x hx hu=>?_)|refine gY (fun x hx=>?_)|refine gE ?_|refine Both.mk ?_ ?_|refine gS (fun h=>?_) (fun h=>?_)|refine Spl.nt ?_|refine Spl.mk (fun h=>?_) (fun h=>?_))))
    exact ⟨⟨[], E1 Tryz.f8 Tryz.f60 rgL d n (.fs 1 (vS way)) v0 (tm0 (out1.map encN)), 19⟩, Wk.enF trivial (by (repeat (first | exact trivial | refine And.intro (obw_eq rfl (by with_unfolding_all exact rfl)) ?_ | refine And.intro (obw_fr (by with_unfolding_all exact rfl) (by (repeat (first | exact trivial | refine And.intro (by with_unfolding_all exact rfl) ?_)))) ?_))) rfl, hN⟩
end Go.Proofs.YtijdbjjkfkjihaaGreatDoor

/- The tree of a disk: the first level. Conditions: none. -/
namespace Go.Proofs.YtijdbjjkfkjihaaGreatDoor
open Go.Sy
set_option maxRecDepth 100000
set_option linter.all false
set_option maxHeartbeats 16000000 in
theorem lvl0 (d : Option Dk) (hd : DkOK d) (n : Int) (way : List (List UInt8)) (hw : way.length = 0) (hwn : ∀ s ∈ way, s.length ≤ 8) (out : List Nod) (ho : out.length ≤ 64) (O : List (List D)) (hO : O = out.map encN) (G : Exit → S → Prop)
    (hA1 : (out ++ subV (rdS d) 4 n way).length ≤ 64 → G .ret ⟨[], E0 Tryz.f8 Tryz.f60 rgL d n (.fs 1 (vS way))  (tm0 ((out ++ subV (rdS d) 4 n way).map encN)), 10⟩) (hA2 : (out ++ subV (rdS d) 4 n way).length ≤ 64 → G .normal ⟨[], E0 Tryz.f8 Tryz.f60 rgL d n (.fs 1 (vS way))  (tm0 ((out ++ subV (rdS d) 4 n way).map encN)), 10⟩) (hB : ¬ (out ++ subV (rdS d) 4 n way).length ≤ 64 → G .ret ⟨[], E0 Tryz.f8 Tryz.f60 rgD d n (.fs 1 (vS way))  (tm1 (((out ++ subV (rdS d) 4 n way).take 64).map encN)), 10⟩) :
    vc Tryz.prog ti 72 (bd Tryz.f60) (fun e υ => ∃ τ, Wk 72 υ τ ∧ G e τ) ⟨idx 0 [.yld 9, .ptr 6 0, .ptr 4 0, .ptr 5 0], E0 Tryz.f8 Tryz.f60 rgL d n (.fs 1 (vS way))  (tm0 O), 10⟩ := by
  have hwl : (vS way).length = way.length := List.length_map ..
  have hnl : (vS (nms (rdS d) n)).length = (nms (rdS d) n).length := List.length_map ..
  have hls := list_ok d hd n
  have hkb := nms_len (rdS d) n
  subst hO
  (repeat' ((conv=>whnf);first|with_reducible refine gA ?_|((with_reducible refine callE_id ?_); refine CallE.con ⟨_, hls, ?_⟩)|(with_reducible first|refine gB ?_|refine gZ (fun x hx hu=>?_)|refine gY (fun x hx=>?_)|refine gE ?_|refine Both.mk ?_ ?_|refine gS (fun h=>?_) (fun h=>?_)|refine Spl.nt ?_|refine Spl.mk (fun h=>?_) (fun h=>?_))))
  conv => whnf
  refine LoopS.wk (τ := ⟨slI 4 5 6 10 (nms (rdS d) n) 0, (10, .cells 1 [.yld 9]) :: E0 Tryz.f8 Tryz.f60 rgL d n (.fs 1 (vS way))  (tm0 (out.map encN)), 11⟩) (Wk.enF (by (repeat (first | exact trivial | refine And.intro rfl ?_))) (by (repeat (first | exact trivial | refine And.intro (obw_eq rfl (by with_unfolding_all exact rfl)) ?_ | refine And.intro (obw_fr (by with_unfolding_all exact rfl) (by (repeat (first | exact trivial | refine And.intro (by with_unfolding_all exact rfl) ?_)))) ?_))) rfl) ?_
  refine loop_ruleW ti_ok (fun x : Nat × List Nod => x.1 ≤ (nms (rdS d) n).length ∧ x.2.length ≤ 64 ∧ x.2 ++ subL (rdS d) 3 n way ((nms (rdS d) n).drop x.1) = out ++ subV (rdS d) 4 n way) (fun x : Nat × List Nod => ⟨slI 4 5 6 10 (nms (rdS d) n) x.1, (10, .cells 1 [.yld 9]) :: E0 Tryz.f8 Tryz.f60 rgL d n (.fs 1 (vS way))  (tm0 (x.2.map encN)), 11⟩) (fun x => (nms (rdS d) n).length - x.1) (0, out) ⟨Nat.zero_le _, ho, rfl⟩ (Wk.en ⟨by (repeat (first | exact trivial | refine And.intro rfl ?_)), by (repeat (first | exact trivial | refine And.intro rfl ?_)), rfl⟩) ?_
  intro ⟨k, out1⟩ ⟨k1, ho1, hT⟩
  dsimp only at k1 ho1 hT
  have hol : (out1.map encN).length = out1.length := List.length_map ..
  rcases Nat.lt_or_ge k (nms (rdS d) n).length with hkl | hkl
  · obtain ⟨s, hs⟩ := lt_get hkl
    have hx : (vS (nms (rdS d) n))[k]? = some [.st s] := by unfold vS; rw [List.getElem?_map, hs]; rfl
    have hsn := name_len (nms_name (rdS d) n s (List.mem_of_getElem? hs))
    have hwn2 : ∀ t ∈ way ++ [s], t.length ≤ 8 := fun t ht => by
      rcases List.mem_append.1 ht with ht | ht
      · exact hwn t ht
      · rw [List.mem_singleton.1 ht]; exact hsn
    have hw2 : (way ++ [s]).length = 1 := by rw [List.length_append, hw]; rfl
    have hf := find_ok d hd n s
    rw [fndV_eq] at hf
    have he := entry_ok d hd (kOf (rdS d) n s)
    have hi := inode_ok d hd (mOf (rdS d) n s)
    have hj := join_way (way ++ [s]) hwn2 (by omega) (by simp)
    have hda := data_ok d hd (inoAt (rdS d) (mOf (rdS d) n s)) (inoAt_RI _ _)
    rw [drop_at hs, subL_cons] at hT
    have hwo : vS way ++ [[.st s]] = vS (way ++ [s]) := by unfold vS; rw [List.map_append]; rfl
    have htk : (List.take (((vS way).length : Nat) : Int).toNat (vS way)).length ≤ 4 := by rw [List.length_take]; omega
    have hvl : (vS (way ++ [s])).length = 1 := by unfold vS; rw [List.length_map]; exact hw2
    have hwo2 : (vS way).take (((vS way).length : Nat) : Int).toNat ++ [[.st s]] = vS (way ++ [s]) := by rw [List.take_of_length_le (by omega)]; exact hwo
    have hmap : (out1.map encN ++ [encN (nodV (rdS d) way n s)]) = (out1 ++ [(nodV (rdS d) way n s)]).map encN := by rw [List.map_append]; rfl
    have hE : out1.length = 64 → G .ret ⟨[], E0 Tryz.f8 Tryz.f60 rgD d n (.fs 1 (vS way))  (tm1 (out1.map encN)), 10⟩ := fun h => by
      have := hB (by rw [← hT, List.length_append, List.length_cons]; omega)
      rw [← hT, List.take_left' h] at this
      exact this
    have hT2 : (inoAt (rdS d) (mOf (rdS d) n s)).k = 2 → ((out1 ++ [(nodV (rdS d) way n s)]) ++ subV (rdS d) 3 (mOf (rdS d) n s) (way ++ [s])) ++ subL (rdS d) 3 n way ((nms (rdS d) n).drop (k + 1)) = out ++ subV (rdS d) 4 n way := fun h => by
      rw [← hT, if_pos h]; simp only [List.append_assoc, List.cons_append, List.nil_append]
    have hT3 : ¬ (inoAt (rdS d) (mOf (rdS d) n s)).k = 2 → (out1 ++ [(nodV (rdS d) way n s)]) ++ subL (rdS d) 3 n way ((nms (rdS d) n).drop (k + 1)) = out ++ subV (rdS d) 4 n way := fun h => by
      rw [← hT, if_neg h]; simp only [List.append_assoc, List.cons_append, List.nil_append]
    have hE2 : (inoAt (rdS d) (mOf (rdS d) n s)).k = 2 → ¬ ((out1 ++ [(nodV (rdS d) way n s)]) ++ subV (rdS d) 3 (mOf (rdS d) n s) (way ++ [s])).length ≤ 64 → G .ret ⟨[], E0 Tryz.f8 Tryz.f60 rgD d n (.fs 1 (vS way))  (tm1 ((((out1 ++ [(nodV (rdS d) way n s)]) ++ subV (rdS d) 3 (mOf (rdS d) n s) (way ++ [s])).take 64).map encN)), 10⟩ := fun h h2 => by
      have := hB (by rw [← hT2 h, List.length_append]; omega)
      rw [← hT2 h, List.take_append_of_le_length (by omega)] at this
      exact this
    have hmu : (nms (rdS d) n).length - (k + 1) < (nms (rdS d) n).length - k := by omega
    clear hT hB
    (repeat' ((conv=>whnf);first|with_reducible refine gA ?_|((with_reducible refine callE_id ?_); first | refine CallE.con ⟨_, hf, ?_⟩ | refine CallE.con ⟨_, he, ?_⟩ | refine CallE.con ⟨_, hi, ?_⟩ | refine CallE.con ⟨_, hj, ?_⟩ | refine CallE.con ⟨_, hda, ?_⟩ | refine CallE.inl ?_) | refine CallP.mk ⟨_, hj, ?_⟩ | refine CallP.mk ⟨_, hda, ?_⟩|(with_reducible first|refine gB0 ?_|refine gZ (fun x hx hu=>?_)|refine gY (fun x hx=>?_)|refine gE ?_|refine Both.mk ?_ ?_|refine gS (fun h=>?_) (fun h=>?_)|refine Spl.nt ?_|refine Spl.mk (fun h=>?_) (fun h=>?_))))
    refine DrawS.wk (τ := ⟨(9, .d (.it .i64 (mOf (rdS d) n s))) :: (10, .ptr 11 0) :: (11, .d (.fs 1 (vS (way ++ [s])))) :: slI 4 5 6 10 (nms (rdS d) n) k, (12, .tag 11 50) :: (11, .cells 6 ((encI (inoAt (rdS d) (mOf (rdS d) n s))).map .d)) :: (10, .cells 1 [.yld 9]) :: E0 Tryz.f8 Tryz.f60 rgL d n (.fs 1 (vS way))  (tm0 (out1.map encN)), 13⟩) ?_ ?_
    · exact Wk.vwL (by (repeat (first | exact trivial | refine And.intro (Vw.eq rfl) ?_ | refine And.intro (Vw.ts' hwo2) ?_))) (by (repeat (first | exact trivial | refine And.intro (VwO.same _) ?_))) rfl
    (repeat' ((conv=>whnf);first|with_reducible refine gA ?_|((with_reducible refine callE_id ?_); first | refine CallE.con ⟨_, hf, ?_⟩ | refine CallE.con ⟨_, he, ?_⟩ | refine CallE.con ⟨_, hi, ?_⟩ | refine CallE.con ⟨_, hj, ?_⟩ | refine CallE.con ⟨_, hda, ?_⟩ | refine CallE.inl ?_) | refine CallP.mk ⟨_, hj, ?_⟩ | refine CallP.mk ⟨_, hda, ?_⟩|(with_reducible first|refine gB ?_|refine gZ (fun x hx hu=>?_)|refine gY (fun x hx=>?_)|refine gE ?_|refine Both.mk ?_ ?_|refine gS (fun h=>?_) (fun h=>?_)|refine Spl.nt ?_|refine Spl.mk (fun h=>?_) (fun h=>?_))))
    refine YieldI.post ?_
    refine YieldI.intro ti_ok (by with_unfolding_all exact rfl) (by with_unfolding_all exact rfl) (by with_unfolding_all exact rfl) ?_
    (repeat' ((conv=>whnf);first|with_reducible refine gA ?_|with_reducible refine YieldI.intro ti_ok (by with_unfolding_all exact rfl) (by with_unfolding_all exact rfl) (by with_unfolding_all exact rfl) ?_|(with_reducible first|refine gB ?_|refine gZ (fun x hx hu=>?_)|refine gY (fun x hx=>?_)|refine gE ?_|refine Both.mk ?_ ?_|refine gS (fun h=>?_) (fun h=>?_)|refine Spl.nt ?_|refine Spl.mk (fun h=>?_) (fun h=>?_))))
    · refine ⟨⟨[(57, .d (.bl false))], E0 Tryz.f8 Tryz.f60 rgD d n (.fs 1 (vS way))  (tm1 (out1.map encN)), 11⟩, Wk.enF (by (repeat (first | exact trivial | refine And.intro rfl ?_))) (by (repeat (first | exact trivial | refine And.intro (obw_eq rfl (by with_unfolding_all exact rfl)) ?_ | refine And.intro (obw_fr (by with_unfolding_all exact rfl) (by (repeat (first | exact trivial | refine And.intro (by with_unfolding_all exact rfl) ?_)))) ?_))) rfl, ?_⟩
      (repeat' ((conv=>whnf);first|with_reducible refine gA ?_|(with_reducible first|refine gB ?_|refine gZ (fun x hx hu=>?_)|refine gY (fun x hx=>?_)|refine gE ?_|refine Both.mk ?_ ?_|refine gS (fun h=>?_) (fun h=>?_)|refine Spl.nt ?_|refine Spl.mk (fun h=>?_) (fun h=>?_))))
      exact ⟨⟨[], E0 Tryz.f8 Tryz.f60 rgD d n (.fs 1 (vS way))  (tm1 (out1.map encN)), 10⟩, Wk.enF trivial (by (repeat (first | exact trivial | refine And.intro (obw_eq rfl (by with_unfolding_all exact rfl)) ?_ | refine And.intro (obw_fr (by with_unfolding_all exact rfl) (by (repeat (first | exact trivial | refine And.intro (by with_unfolding_all exact rfl) ?_)))) ?_))) rfl, hE (by omega)⟩
    · have hlo : (out1 ++ [(nodV (rdS d) way n s)]).length ≤ 64 := by rw [List.length_append, List.length_singleton]; omega
      refine ⟨⟨(57, .d (.bl true)) :: (9, .d (.it .i64 (mOf (rdS d) n s))) :: (10, .ptr 11 0) :: (11, .d (.fs 1 (vS (way ++ [s])))) :: slI 4 5 6 10 (nms (rdS d) n) k, (12, .tag 11 50) :: (11, .cells 6 ((encI (inoAt (rdS d) (mOf (rdS d) n s))).map .d)) :: (10, .cells 1 [.yld 9]) :: E0 Tryz.f8 Tryz.f60 rgL d n (.fs 1 (vS way))  (tm0 (out1.map encN ++ [encN (nodV (rdS d) way n s)])), 13⟩, Wk.enF (by (repeat (first | exact trivial | refine And.intro rfl ?_))) (by (repeat (first | exact trivial | refine And.intro (obw_eq rfl (by with_unfolding_all exact rfl)) ?_ | refine And.intro (obw_fr (by with_unfolding_all exact rfl) (by (repeat (first | exact trivial | refine And.intro (by with_unfolding_all exact rfl) ?_)))) ?_))) rfl, ?_⟩
      by_cases hk2 : (inoAt (rdS d) (mOf (rdS d) n s)).k = 2
      · (repeat' ((conv=>whnf);first|with_reducible refine gA ?_|((with_reducible refine callE_id ?_); refine CallE.inl ?_) | with_reducible refine CallI.inl ti_ok i28 rfl ?_|(with_reducible first|refine gB ?_|refine gZ (fun x hx hu=>?_)|refine gY (fun x hx=>?_)|refine gE ?_|refine Both.mk ?_ ?_|refine gS (fun h=>?_) (fun h=>?_)|refine Spl.nt ?_|refine Spl.mk (fun h=>?_) (fun h=>?_))))
        conv => whnf
        refine RangeS.wk (τ := ⟨slI 4 5 6 10 (nms (rdS d) n) k ++ [(65, clo 14 15 16)], c3 d (mOf (rdS d) n s) (.fs 1 (vS (way ++ [s]))) 14 15 16 ++ (10, .cells 1 [.yld 9]) :: E0 Tryz.f8 Tryz.f60 rgL d n (.fs 1 (vS way))  (tm0 (out1.map encN ++ [encN (nodV (rdS d) way n s)])), 17⟩) (Wk.enF (by (repeat (first | exact trivial | refine And.intro rfl ?_))) (by (repeat (first | exact trivial | refine And.intro (obw_eq rfl (by with_unfolding_all exact rfl)) ?_ | refine And.intro (obw_fr (by with_unfolding_all exact rfl) (by (repeat (first | exact trivial | refine And.intro (by with_unfolding_all exact rfl) ?_)))) ?_))) rfl) ?_
        refine RangeS.introW ti_ok i60 rfl rfl (lvl1 d hd  ⟨nms (rdS d) n, k, n, .fs 1 (vS way)⟩ (mOf (rdS d) n s) (way ++ [s]) hw2 hwn2 (out1 ++ [(nodV (rdS d) way n s)]) hlo (out1.map encN ++ [encN (nodV (rdS d) way n s)]) hmap _ ?_ ?_ ?_)
        · intro h2
          (repeat' ((conv=>whnf);first|with_reducible refine gA ?_|(with_reducible first|refine gB ?_|refine gZ (fun x hx hu=>?_)|refine gY (fun x hx=>?_)|refine gE ?_|refine Both.mk ?_ ?_|refine gS (fun h=>?_) (fun h=>?_)|refine Spl.nt ?_|refine Spl.mk (fun h=>?_) (fun h=>?_))))
          exact ⟨(k + 1, (out1 ++ [(nodV (rdS d) way n s)]) ++ subV (rdS d) 3 (mOf (rdS d) n s) (way ++ [s])), ⟨hkl, h2, hT2 hk2⟩, by dsimp only; omega, Wk.enF (And.intro rfl (And.intro rfl (And.intro rfl (And.intro rfl (And.intro rfl (And.intro rfl (And.intro (it_eq (by first | omega | (dsimp only; omega))) trivial))))))) (by (repeat (first | exact trivial | refine And.intro (obw_eq rfl (by with_unfolding_all exact rfl)) ?_ | refine And.intro (obw_fr (by with_unfolding_all exact rfl) (by (repeat (first | exact trivial | refine And.intro (by with_unfolding_all exact rfl) ?_)))) ?_))) rfl⟩
        · intro h2
          (repeat' ((conv=>whnf);first|with_reducible refine gA ?_|(with_reducible first|refine gB ?_|refine gZ (fun x hx hu=>?_)|refine gY (fun x hx=>?_)|refine gE ?_|refine Both.mk ?_ ?_|refine gS (fun h=>?_) (fun h=>?_)|refine Spl.nt ?_|refine Spl.mk (fun h=>?_) (fun h=>?_))))
          exact ⟨(k + 1, (out1 ++ [(nodV (rdS d) way n s)]) ++ subV (rdS d) 3 (mOf (rdS d) n s) (way ++ [s])), ⟨hkl, h2, hT2 hk2⟩, by dsimp only; omega, Wk.enF (And.intro rfl (And.intro rfl (And.intro rfl (And.intro rfl (And.intro rfl (And.intro rfl (And.intro (it_eq (by first | omega | (dsimp only; omega))) trivial))))))) (by (repeat (first | exact trivial | refine And.intro (obw_eq rfl (by with_unfolding_all exact rfl)) ?_ | refine And.intro (obw_fr (by with_unfolding_all exact rfl) (by (repeat (first | exact trivial | refine And.intro (by with_unfolding_all exact rfl) ?_)))) ?_))) rfl⟩
        · intro h2
          (repeat' ((conv=>whnf);first|with_reducible refine gA ?_|(with_reducible first|refine gB ?_|refine gZ (fun x hx hu=>?_)|refine gY (fun x hx=>?_)|refine gE ?_|refine Both.mk ?_ ?_|refine gS (fun h=>?_) (fun h=>?_)|refine Spl.nt ?_|refine Spl.mk (fun h=>?_) (fun h=>?_))))
          exact ⟨⟨[], E0 Tryz.f8 Tryz.f60 rgD d n (.fs 1 (vS way))  (tm1 ((((out1 ++ [(nodV (rdS d) way n s)]) ++ subV (rdS d) 3 (mOf (rdS d) n s) (way ++ [s])).take 64).map encN)), 10⟩, Wk.enF trivial (by (repeat (first | exact trivial | refine And.intro (obw_eq rfl (by with_unfolding_all exact rfl)) ?_ | refine And.intro (obw_fr (by with_unfolding_all exact rfl) (by (repeat (first | exact trivial | refine And.intro (by with_unfolding_all exact rfl) ?_)))) ?_))) rfl, hE2 hk2 h2⟩
      · (repeat' ((conv=>whnf);first|with_reducible refine gA ?_|(with_reducible first|refine gB ?_|refine gZ (fun x hx hu=>?_)|refine gY (fun x hx=>?_)|refine gE ?_|refine Both.mk ?_ ?_|refine gS (fun h=>?_) (fun h=>?_)|refine Spl.nt ?_|refine Spl.mk (fun h=>?_) (fun h=>?_))))
        exact ⟨(k + 1, out1 ++ [(nodV (rdS d) way n s)]), ⟨hkl, hlo, hT3 hk2⟩, hmu, wk_tr (congrArg (fun O => (⟨slI 4 5 6 10 (nms (rdS d) n) (k + 1), (10, .cells 1 [.yld 9]) :: E0 Tryz.f8 Tryz.f60 rgL d n (.fs 1 (vS way))  (tm0 O), 11⟩ : S)) hmap) (Wk.enF (And.intro rfl (And.intro rfl (And.intro rfl (And.intro rfl (And.intro rfl (And.intro rfl (And.intro (it_eq (by first | omega | (dsimp only; omega))) trivial))))))) (by (repeat (first | exact trivial | refine And.intro (obw_eq rfl (by with_unfolding_all exact rfl)) ?_ | refine And.intro (obw_fr (by with_unfolding_all exact rfl) (by (repeat (first | exact trivial | refine And.intro (by with_unfolding_all exact rfl) ?_)))) ?_))) rfl)⟩
  · have hN : G .normal ⟨[], E0 Tryz.f8 Tryz.f60 rgL d n (.fs 1 (vS way))  (tm0 (out1.map encN)), 10⟩ := by
      have e : out1 = out ++ subV (rdS d) 4 n way := by
        rw [← hT, List.drop_of_length_le hkl]; exact (List.append_nil _).symm
      have := hA2 (by rw [← e]; exact ho1)
      rw [← e] at this
      exact this
    (repeat' ((conv=>whnf);first|with_reducible refine gA ?_|(with_reducible first|refine gB ?_|refine gZ (fun x hx hu=>?_)|refine gY (fun x hx=>?_)|refine gE ?_|refine Both.mk ?_ ?_|refine gS (fun h=>?_) (fun h=>?_)|refine Spl.nt ?_|refine Spl.mk (fun h=>?_) (fun h=>?_))))
    exact ⟨⟨[], E0 Tryz.f8 Tryz.f60 rgL d n (.fs 1 (vS way))  (tm0 (out1.map encN)), 10⟩, Wk.enF trivial (by (repeat (first | exact trivial | refine And.intro (obw_eq rfl (by with_unfolding_all exact rfl)) ?_ | refine And.intro (obw_fr (by with_unfolding_all exact rfl) (by (repeat (first | exact trivial | refine And.intro (by with_unfolding_all exact rfl) ?_)))) ?_))) rfl, hN⟩
end Go.Proofs.YtijdbjjkfkjihaaGreatDoor

/- The tree of a disk, whole. Conditions: none. -/
namespace Go.Proofs.YtijdbjjkfkjihaaGreatDoor
open Go.Sy
set_option maxRecDepth 100000
set_option linter.all false
theorem Wk.nilD {N : Nat} {σ : S} (n a b : Nat) (hn : Go.Sy.look n σ.mem = some (.cells 1 [.d (.fs a [])])) : Wk N σ ⟨σ.sl, (n, .cells 1 [.d (.fs b [])]) :: σ.mem, σ.nx⟩ := by
  refine ⟨fun κ g w0 w hst => ⟨g, ?_⟩⟩
  have on : ∀ k, On g ((n, .cells 1 [.d (.fs b [])]) :: σ.mem) k → On g σ.mem k := fun k h => by
    unfold On at h ⊢
    rw [look_cons] at h
    by_cases hk : k = n
    · subst hk; rw [hn]; trivial
    · rw [if_neg hk] at h; exact h
  refine ⟨hst.size, hst.defers, hst.sl, ⟨hst.inv.frz, fun k ob hk => ?_, fun k m hkm h h' => hst.inv.inj k m hkm (on k h) (on m h'), hst.inv.size, hst.inv.pres, fun k h => hst.inv.own k (on k h), hst.inv.f0, hst.inv.fnew, hst.inv.os, hst.inv.tape, hst.inv.output, hst.inv.dfr⟩, ?_⟩
  · rw [look_cons] at hk
    by_cases hkn : k = n
    · subst hkn
      rw [if_pos rfl] at hk
      obtain rfl := Option.some.inj hk
      obtain ⟨arr, T, e1, e2, e3, e4, e5, e6⟩ := hst.inv.obs k _ hn
      refine ⟨arr, T, e1, e2, rfl, fun j hj => ?_, fun j hj => ?_, e6⟩
      · obtain rfl : j = 0 := by simp at hj; omega
        rfl
      · obtain rfl : j = 0 := by simp at hj; omega
        have h := e5 0 (by simp)
        simp only [List.getElem_cons_zero] at h ⊢
        generalize arr.getD 0 undef = q at h
        cases h with | d _ _ hd => ?_
        cases hd with
        | fs0 => exact .d _ _ (.fs0 _ _ _)
        | fs _ _ _ _ _ _ _ hl =>
          obtain rfl : 0 = _ := hl
          exact .d _ _ (.fs0 _ _ _)
    · rw [if_neg hkn] at hk; exact hst.inv.obs k ob hk
  · have := S.ok_iff.1 hst.ok
    refine S.ok_iff.2 ⟨this.1, fun p hp => ?_⟩
    rcases List.mem_cons.1 hp with rfl | hp
    · exact ⟨(S.ok_mem hst.ok hn).1, rfl⟩
    · exact this.2 p hp
theorem FnC.res {P : Program} {f : Nat} {args : List AV} {r r' : AV} (h : FnC P f args r) (hp : r'.isP = true) (hc : ∀ g v, AVR g r v → AVR g r' v) : FnC P f args r' := ⟨hp, fun g w vs a b c => by
  rcases h.run g w vs a b c with ⟨h1, h2⟩ | ⟨v, w', h1, v', g', h2, h3, h4⟩
  · exact .inl ⟨h1, h2.mono fun e w' ⟨v, g', q1, q2, q3⟩ => ⟨v, g', q1, hc _ _ q2, q3⟩⟩
  · exact .inr ⟨v, w', h1, v', g', h2, hc _ _ h3, h4⟩⟩
/-- An empty slice is one of any element's size. -/
theorem nil_sz {g : Gh} {a b : Nat} {x : D} {v : Value} (h : AVR g (.tup [.d (.fs a []), .d x]) v) : AVR g (.tup [.d (.fs b []), .d x]) v := by
  cases h with | tup _ vs h1 h2 => ?_
  refine .tup _ _ h1 fun j hj => ?_
  have := h2 j hj
  match j, hj with
  | 0, hj =>
    simp only [List.getElem_cons_zero] at this ⊢
    generalize vs.getD 0 undef = q at this
    cases this with | d _ _ hd => ?_
    cases hd with
    | fs0 => exact .d _ _ (.fs0 _ _ _)
    | fs _ _ _ _ _ _ _ hl =>
      obtain rfl : 0 = _ := hl
      exact .d _ _ (.fs0 _ _ _)
  | 1, hj => exact this
theorem topT {L : List Nod} (h : L.length ≤ 64) : AV.tup [.d (.fs 3 (L.map encN)), .d (.bl true)] = AV.tup [.d (.fs 3 ((L.take 64).map encN)), .d (.bl (decide (L.length ≤ 64)))] := by rw [List.take_of_length_le h, decide_eq_true h]
theorem topF {L : List Nod} (h : ¬ L.length ≤ 64) : AV.tup [.d (.fs 3 ((L.take 64).map encN)), .d (.bl false)] = AV.tup [.d (.fs 3 ((L.take 64).map encN)), .d (.bl (decide (L.length ≤ 64)))] := by rw [decide_eq_false h]
set_option maxHeartbeats 8000000 in
theorem tree_ok (d : Option Dk) (hd : DkOK d) : FnC Tryz.prog 8 [.d (encD d)] (tupN (treeV (rdS d))) := by
  have hi := inode_ok d hd 0
  unfold treeV
  by_cases hk : (inoAt (rdS d) 0).k = 2
  · rw [if_pos hk]
    unfold topV tupN
    refine FnC.intro ti_ok Tryz.func8 rfl Tryz.ntmps8 Tryz.call8 rfl (Nat.le_of_ble_eq_true rfl) rfl ?_
    (repeat' ((conv=>whnf);first|with_reducible refine gA ?_|((with_reducible refine callE_id ?_); first | refine CallE.con ⟨_, hi, ?_⟩ | refine CallE.inl ?_) | with_reducible refine CallI.inl ti_ok i28 rfl ?_|(with_reducible first|refine gB ?_|refine gZ (fun x hx hu=>?_)|refine gY (fun x hx=>?_)|refine gE ?_|refine Both.mk ?_ ?_|refine gS (fun h=>?_) (fun h=>?_)|refine Spl.nt ?_|refine Spl.mk (fun h=>?_) (fun h=>?_))))
    conv => whnf
    refine RangeS.wk (Wk.trans (Wk.trans (Wk.nlTs 2 0 1 3 35 (by with_unfolding_all exact rfl) (by with_unfolding_all exact rfl)) (Wk.nilD 6 0 1 (by with_unfolding_all exact rfl))) (Wk.enF (τ := ⟨[(2, .ptr 0 0), (3, .ptr 1 0), (4, .ptr 2 0), (11, clo 4 5 6)], c3 d 0 (.fs 1 (vS [])) 4 5 6 ++ tm0 [], 8⟩) (by (repeat (first | exact trivial | refine And.intro rfl ?_))) (by (repeat (first | exact trivial | refine And.intro (obw_eq rfl (by with_unfolding_all exact rfl)) ?_ | refine And.intro (obw_fr (by with_unfolding_all exact rfl) (by (repeat (first | exact trivial | refine And.intro (by with_unfolding_all exact rfl) ?_)))) ?_))) rfl)) ?_
    refine RangeS.introW ti_ok i60 rfl rfl (lvl0 d hd 0 [] rfl (fun s hs => by cases hs) [] (Nat.zero_le _) [] rfl _ ?_ ?_ ?_)
    · intro h2
      (repeat' ((conv=>whnf);first|with_reducible refine gA ?_|(with_reducible first|refine gB ?_|refine gZ (fun x hx hu=>?_)|refine gY (fun x hx=>?_)|refine gE ?_|refine Both.mk ?_ ?_|refine gS (fun h=>?_) (fun h=>?_)|refine Spl.nt ?_|refine Spl.mk (fun h=>?_) (fun h=>?_))))
      exact topT h2
    · intro h2
      (repeat' ((conv=>whnf);first|with_reducible refine gA ?_|(with_reducible first|refine gB ?_|refine gZ (fun x hx hu=>?_)|refine gY (fun x hx=>?_)|refine gE ?_|refine Both.mk ?_ ?_|refine gS (fun h=>?_) (fun h=>?_)|refine Spl.nt ?_|refine Spl.mk (fun h=>?_) (fun h=>?_))))
      exact topT h2
    · intro h2
      (repeat' ((conv=>whnf);first|with_reducible refine gA ?_|(with_reducible first|refine gB ?_|refine gZ (fun x hx hu=>?_)|refine gY (fun x hx=>?_)|refine gE ?_|refine Both.mk ?_ ?_|refine gS (fun h=>?_) (fun h=>?_)|refine Spl.nt ?_|refine Spl.mk (fun h=>?_) (fun h=>?_))))
      exact topF h2
  · rw [if_neg hk]
    refine FnC.res (r := .tup [.d (.fs 0 []), .d (.bl true)]) ?_ rfl fun g v => nil_sz
    refine FnC.intro ti_ok Tryz.func8 rfl Tryz.ntmps8 Tryz.call8 rfl (Nat.le_of_ble_eq_true rfl) rfl ?_
    (repeat' ((conv=>whnf);first|with_reducible refine gA ?_|((with_reducible refine callE_id ?_); refine CallE.con ⟨_, hi, ?_⟩)|(with_reducible first|refine gB ?_|refine gZ (fun x hx hu=>?_)|refine gY (fun x hx=>?_)|refine gE ?_|refine Both.mk ?_ ?_|refine gS (fun h=>?_) (fun h=>?_)|refine Spl.nt ?_|refine Spl.mk (fun h=>?_) (fun h=>?_))))
    exact rfl
end Go.Proofs.YtijdbjjkfkjihaaGreatDoor

/- Lists of nodes alike; what is known. Conditions: none. -/
namespace Go.Proofs.YtijdbjjkfkjihaaGreatDoor
open Go.Sy
set_option maxRecDepth 100000
set_option linter.all false
theorem eqNn (x y : Nod) : eqDs (encN x) (encN y) = decide (x = y) := by
  obtain ⟨p, d, t⟩ := x
  obtain ⟨p', d', t'⟩ := y
  rw [Bool.eq_iff_iff]
  simp [eqDs, eqD, encN]
theorem take_endN {α : Type} {a b : List α} {k : Nat} (h : a.take k = b.take k) (ha : a.length ≤ k) (hb : b.length ≤ k) : a = b := by
  rwa [List.take_of_length_le ha, List.take_of_length_le hb] at h
theorem sameN_ok (a b : List Nod) (ha : a.length ≤ 100000) : FnC Tryz.prog 12 [.d (.fs 3 (a.map encN)), .d (.fs 3 (b.map encN))] (.d (.bl (decide (a = b)))) := by
  refine FnC.intro ti_ok Tryz.func12 rfl Tryz.ntmps12 Tryz.call12 rfl (Nat.le_of_ble_eq_true rfl) rfl ?_
  have hla : (a.map encN).length = a.length := List.length_map ..
  have hlb : (b.map encN).length = b.length := List.length_map ..
  by_cases he : a.length = b.length
  · (repeat' ((conv=>whnf);first|with_reducible refine gA ?_|(with_reducible first|refine gB ?_|refine gZ (fun x hx hu=>?_)|refine gY (fun x hx=>?_)|refine gE ?_|refine Both.mk ?_ ?_|refine gS (fun h=>?_) (fun h=>?_)|refine Spl.nt ?_|refine Spl.mk (fun h=>?_) (fun h=>?_))))
    refine loop_rule ti_ok (fun k : Nat => k ≤ a.length ∧ a.take k = b.take k) (fun k => ⟨[(0, .d (.fs 3 (a.map encN))), (1, .d (.fs 3 (b.map encN))), (5, .d (.it .i64 k))], [], 0⟩) (fun k => a.length - k) 0 ⟨Nat.zero_le _, rfl⟩ ⟨⟨rfl, rfl, rfl, trivial⟩, trivial, rfl⟩ ?_
    intro k ⟨k1, k2⟩
    rcases Nat.lt_or_ge k a.length with hkl | hkl
    · obtain ⟨x, hx⟩ := lt_get hkl
      obtain ⟨y, hy⟩ := lt_get (l := b) (k := k) (by omega)
      (repeat' ((conv=>whnf);first|with_reducible refine gA ?_|(with_reducible first|refine gB ?_|refine gZ (fun x hx hu=>?_)|refine gY (fun x hx=>?_)|refine gE ?_|refine Both.mk ?_ ?_|refine gS (fun h=>?_) (fun h=>?_)|refine Spl.nt ?_|refine Spl.mk (fun h=>?_) (fun h=>?_))))
      · have h' : eqDs (encN x) (encN y) = true := h
        rw [eqNn, decide_eq_true_eq] at h'
        refine again (k + 1) ⟨by omega, ?_⟩ (by dsimp only; omega) (And.intro rfl (And.intro rfl (And.intro rfl trivial))) trivial rfl
        rw [take_snoc hx, take_snoc hy, k2, h']
      · have h' : eqDs (encN x) (encN y) = false := h
        rw [eqNn, decide_eq_false_iff_not] at h'
        refine bl_eq (decide_eq_false fun hab => h' ?_).symm
        rw [hab, hy] at hx
        exact (Option.some.inj hx).symm
    · (repeat' ((conv=>whnf);first|with_reducible refine gA ?_|(with_reducible first|refine gB ?_|refine gZ (fun x hx hu=>?_)|refine gY (fun x hx=>?_)|refine gE ?_|refine Both.mk ?_ ?_|refine gS (fun h=>?_) (fun h=>?_)|refine Spl.nt ?_|refine Spl.mk (fun h=>?_) (fun h=>?_))))
      exact bl_eq (decide_eq_true (take_endN k2 hkl (by omega))).symm
  · (repeat' ((conv=>whnf);first|with_reducible refine gA ?_|(with_reducible first|refine gB ?_|refine gZ (fun x hx hu=>?_)|refine gY (fun x hx=>?_)|refine gE ?_|refine Both.mk ?_ ?_|refine gS (fun h=>?_) (fun h=>?_)|refine Spl.nt ?_|refine Spl.mk (fun h=>?_) (fun h=>?_))))
    exact bl_eq (decide_eq_false fun hab => he (by rw [hab])).symm
def k3S : List UInt8 := [2, 0, 0, 0, 0, 0, 0, 0, 0, 0, 0, 0, 0, 0, 0, 0, 0, 0, 0, 0, 0, 0, 0, 0, 0, 0, 0, 0, 0, 0, 0, 0]
def kV : List Wr := [⟨17, k1S, 0, 0, 0⟩, ⟨3, k3S, 0, 0, 0⟩]
theorem kv_ok : WsOK kV := by
  intro w hw
  simp only [kV, List.mem_cons, List.not_mem_nil, or_false] at hw
  rcases hw with rfl | rfl <;> rfl
def kDV : Option Dk := dskOf emptyM kV
theorem kdv_OK : DkOK kDV := dsk_OK em_ok kv_ok (by decide)
theorem v1 : nmsK (rdS kDV) 0 24 = [[97]] := by decide +kernel
theorem v2 : nmsK (rdS kDV) 2 24 = [] := by decide +kernel
theorem v3 : mOf (rdS kDV) 0 [97] = 2 := by decide +kernel
theorem v4 : (inoAt (rdS kDV) 2).k = 2 := by decide +kernel
theorem v5 : dataV (rdS kDV) (inoAt (rdS kDV) 2) = [] := by decide +kernel
theorem v6 : (inoAt (rdS kDV) 0).k = 2 := by decide +kernel
theorem v7 : nms (rdS kDV) 0 = [[97]] := by
  unfold nms sortS
  rw [v1, List.mergeSort_singleton]; rfl
theorem v8 : nms (rdS kDV) 2 = [] := by
  unfold nms sortS
  rw [v2, List.mergeSort_nil]; rfl
theorem v9 : treeV (rdS kDV) = ([⟨[47, 97], true, []⟩], true) := by
  have e : subV (rdS kDV) 4 0 [] = [⟨[47, 97], true, []⟩] := by
    rw [subV, v7]
    show nodV (rdS kDV) [] 0 [97] :: ((if (inoAt (rdS kDV) (mOf (rdS kDV) 0 [97])).k = 2 then subV (rdS kDV) 3 (mOf (rdS kDV) 0 [97]) ([] ++ [[97]]) else []) ++ []) = _
    rw [v3, if_pos v4, subV, v8]
    show [nodV (rdS kDV) [] 0 [97]] = _
    unfold nodV
    rw [v3, v4, v5]; rfl
  unfold treeV topV
  rw [if_pos v6, e]; rfl
theorem knows14_ok : FnC Tryz.prog 7 [] (.d (.bl true)) := by
  have h1 : FnC Tryz.prog 9 [.d (encM emptyM), .d (.fs 36 (kV.map encW))] (.d (encD kDV)) := disk_ok emptyM em_ok kV kv_ok (by decide) (by decide)
  have h2 := tree_ok kDV kdv_OK
  rw [v9] at h2
  have h3 : FnC Tryz.prog 15 [.d (.fs 3 [[.st [47, 98], .bl false, .st [120, 7]]])] (.tup [.d (.st [47, 98, 32, 34, 120, 92, 48, 55, 34, 10]), .d (.bl true)]) := by
    have := vshow_ok [⟨[47, 98], false, [120, 7]⟩] (fun x hx => by rw [List.mem_singleton.1 hx]; decide) (by decide)
    rw [showV, show List.all [(⟨[47, 98], false, [120, 7]⟩ : Nod)] mayB = true by decide +kernel, if_pos rfl, show showN [⟨[47, 98], false, [120, 7]⟩] = [47, 98, 32, 34, 120, 92, 48, 55, 34, 10] by decide +kernel] at this
    exact this
  generalize kDV = dk at *
  refine FnC.intro ti_ok Tryz.func7 rfl Tryz.ntmps7 Tryz.call7 rfl (Nat.le_of_ble_eq_true rfl) rfl ?_
  (repeat' ((conv=>whnf);first|with_reducible refine gA ?_|((with_reducible refine callE_id ?_); first | refine CallE.con ⟨_, empty_ok, ?_⟩ | refine CallE.con ⟨_, h1, ?_⟩ | refine CallE.con ⟨_, h2, ?_⟩ | refine CallE.con ⟨_, h3, ?_⟩)|(with_reducible first|refine gB ?_|refine gZ (fun x hx hu=>?_)|refine gY (fun x hx=>?_)|refine gE ?_|refine Both.mk ?_ ?_|refine gS (fun h=>?_) (fun h=>?_)|refine Spl.nt ?_|refine Spl.mk (fun h=>?_) (fun h=>?_))))
  exact rfl
end Go.Proofs.YtijdbjjkfkjihaaGreatDoor

/- The law of texts. Conditions: none. -/
namespace Go.Proofs.YtijdbjjkfkjihaaGreatDoor
open Go.Sy
set_option maxRecDepth 100000
set_option linter.all false
theorem readN_len : ∀ (n : Nat) (s : List UInt8) (l : List Nod), s.length ≤ n → readN s = some l → l.length ≤ s.length
  | n, [], l, _, h => by obtain rfl := Option.some.inj (readN_nil.symm.trans h); exact Nat.le_refl _
  | 0, _ :: _, l, hn, h => by simp at hn
  | n + 1, b :: s, l, hn, h => by
    rcases hc : cutC 10 (b :: s) with ⟨line, rest⟩
    cases rest with
    | none => rw [readN_none (by simp) hc] at h; cases h
    | some rest =>
      rw [readN_some hc] at h
      have hl := congrArg List.length (cutC_some hc)
      simp only [List.length_append, List.length_cons] at hl hn
      cases hx : nodeO line with
      | none => rw [hx] at h; cases h
      | some x =>
        rw [hx] at h
        dsimp only at h
        cases hr : readN rest with
        | none => rw [hr] at h; cases h
        | some l' =>
          rw [hr] at h
          obtain rfl := Option.some.inj h
          have h2 := readN_len n rest l' (by omega) hr
          rw [List.length_cons, List.length_cons]; omega
def okT (l : List Nod) : Prop := ∀ x ∈ l, x.p.length ≤ 200 ∧ x.x.length ≤ 500
theorem okT_N {l : List Nod} (h : okT l) : okN l := fun x hx => by have := h x hx; omega
set_option maxHeartbeats 8000000 in
theorem texts_ok (s : List UInt8) (l : List Nod) : FnC Tryz.prog 4 [.d (.st s), .d (.fs 3 (l.map encN))] (.d (.bl true)) := by
  have kk := knows14_ok
  have hll : (l.map encN).length = l.length := List.length_map ..
  refine FnC.intro ti_ok Tryz.func4 rfl Tryz.ntmps4 Tryz.call4 rfl (Nat.le_of_ble_eq_true rfl) rfl ?_
  by_cases hs : s.length ≤ 1000
  · by_cases hl : l.length ≤ 40
    · have a1 := unquote_ok s (by omega)
      have a2 := runquote_ok s (by omega)
      have a5 := vread_ok s (by omega)
      have a6 := rread_ok s hs
      have a7 := quote_ok s (by omega)
      have a8 := rquote_ok s (by omega)
      have hrl : ((readN s).getD []).length ≤ 100000 := by
        cases hr : readN s with
        | none => exact Nat.zero_le _
        | some l' => have := readN_len _ s l' (Nat.le_refl _) hr; show l'.length ≤ _; omega
      have a9 := sameN_ok ((readN s).getD []) ((readN s).getD []) hrl
      rw [decide_eq_true rfl] at a9
      (repeat' ((conv=>whnf);first|with_reducible refine gA ?_|(with_reducible first|refine gB ?_|refine gZ (fun x hx hu=>?_)|refine gY (fun x hx=>?_)|refine gE ?_|refine Both.mk ?_ ?_|refine gS (fun h=>?_) (fun h=>?_)|refine Spl.nt ?_|refine Spl.mk (fun h=>?_) (fun h=>?_))))
      refine loop_rule ti_ok (fun k : Nat => k ≤ l.length ∧ okT (l.take k)) (fun k => ⟨[(0, .d (.st s)), (1, .d (.fs 3 (l.map encN))), (5, .d (.it .i64 k))], [], 0⟩) (fun k => l.length - k) 0 ⟨Nat.zero_le _, fun x hx => (by cases hx)⟩ ⟨⟨rfl, rfl, rfl, trivial⟩, trivial, rfl⟩ ?_
      intro k ⟨k1, k2⟩
      rcases Nat.lt_or_ge k l.length with hkl | hkl
      · obtain ⟨x, hx⟩ := lt_get hkl
        obtain ⟨p, d, t⟩ := x
        have hn : p.length ≤ 200 → t.length ≤ 500 → okT (l.take (k + 1)) := fun h1 h2 y hy => by
          rw [take_snoc hx] at hy
          rcases List.mem_append.1 hy with hy | hy
          · exact k2 y hy
          · rw [List.mem_singleton.1 hy]; exact ⟨h1, h2⟩
        (repeat' ((conv=>whnf);first|with_reducible refine gA ?_|with_reducible refine at_known hx ?_|(with_reducible first|refine gB ?_|refine gZ (fun x hx hu=>?_)|refine gY (fun x hx=>?_)|refine gE ?_|refine Both.mk ?_ ?_|refine gS (fun h=>?_) (fun h=>?_)|refine Spl.nt ?_|refine Spl.mk (fun h=>?_) (fun h=>?_))))
        · exact rfl
        · exact rfl
        · refine again (k + 1) ⟨hkl, hn (by dsimp only at *; omega) (by dsimp only at *; omega)⟩ (by dsimp only; omega) (And.intro rfl (And.intro rfl (And.intro rfl trivial))) trivial rfl
      · have hlt : l.take k = l := List.take_of_length_le hkl
        rw [hlt] at k2
        have a3 := vshow_ok l (okT_N k2) (by omega)
        have a4 := rshow_ok l (okT_N k2) (by omega)
        (repeat' ((conv=>whnf);first|with_reducible refine gA ?_|((with_reducible refine callE_id ?_); first | refine CallE.con ⟨_, a1, ?_⟩ | refine CallE.con ⟨_, a2, ?_⟩ | refine CallE.con ⟨_, a3, ?_⟩ | refine CallE.con ⟨_, a4, ?_⟩ | refine CallE.con ⟨_, a5, ?_⟩ | refine CallE.con ⟨_, a6, ?_⟩ | refine CallE.con ⟨_, a7, ?_⟩ | refine CallE.con ⟨_, a8, ?_⟩ | refine CallE.con ⟨_, a9, ?_⟩ | refine CallE.con ⟨_, kk, ?_⟩) | with_reducible refine Spl.yes (beq_self_eq_true _) ?_|(with_reducible first|refine gB ?_|refine gZ (fun x hx hu=>?_)|refine gY (fun x hx=>?_)|refine gE ?_|refine Both.mk ?_ ?_|refine gS (fun h=>?_) (fun h=>?_)|refine Spl.nt ?_|refine Spl.mk (fun h=>?_) (fun h=>?_))))
        exact rfl
    · (repeat' ((conv=>whnf);first|with_reducible refine gA ?_|((with_reducible refine callE_id ?_); refine CallE.con ⟨_, kk, ?_⟩)|(with_reducible first|refine gB ?_|refine gZ (fun x hx hu=>?_)|refine gY (fun x hx=>?_)|refine gE ?_|refine Both.mk ?_ ?_|refine gS (fun h=>?_) (fun h=>?_)|refine Spl.nt ?_|refine Spl.mk (fun h=>?_) (fun h=>?_))))
      exact rfl
  · (repeat' ((conv=>whnf);first|with_reducible refine gA ?_|((with_reducible refine callE_id ?_); refine CallE.con ⟨_, kk, ?_⟩)|(with_reducible first|refine gB ?_|refine gZ (fun x hx hu=>?_)|refine gY (fun x hx=>?_)|refine gE ?_|refine Both.mk ?_ ?_|refine gS (fun h=>?_) (fun h=>?_)|refine Spl.nt ?_|refine Spl.mk (fun h=>?_) (fun h=>?_))))
    exact rfl
end Go.Proofs.YtijdbjjkfkjihaaGreatDoor

/- The card of ViewTexts. Conditions: none. -/
namespace Go.Proofs.YtijdbjjkfkjihaaGreatDoor
open Go.Sy Go.ChangeShapes Go.WideShapes Go.ChangeAt Go.RowKit
set_option maxRecDepth 100000
set_option linter.all false
def plainT : List Nat := [9, 4, 35, 25]
theorem closed : closedB ti plainT = true := by decide +kernel
theorem shp_st {n : Nat} {x : D} (h : Shp ti n 9 [x]) : ∃ s : List UInt8, x = .st s := by
  match n, h with
  | n + 1, h =>
    obtain ⟨s, hl, _⟩ := h
    exact ⟨s, by simpa using hl⟩
theorem shp_nod {n : Nat} {ds : List D} (h : Shp ti n 35 ds) : ∃ x : Nod, ds = encN x := by
  match n, h with
  | 1, h => obtain ⟨_, _, _, h, _⟩ := h; exact h.elim
  | n + 2, h =>
    obtain ⟨_, _, rfl, ⟨p, rfl, _⟩, _, _, rfl, ⟨d, rfl⟩, _, _, rfl, ⟨x, rfl, _⟩, rfl⟩ := h
    exact ⟨⟨p, d, x⟩, rfl⟩
theorem shp_nods {n : Nat} : ∀ {es : List (List D)}, (∀ x ∈ es, Shp ti n 35 x) → ∃ l : List Nod, es = l.map encN
  | [], _ => ⟨[], rfl⟩
  | x :: es, h => by
    obtain ⟨c, rfl⟩ := shp_nod (h x List.mem_cons_self)
    obtain ⟨l, rfl⟩ := shp_nods (fun y hy => h y (List.mem_cons_of_mem _ hy))
    exact ⟨c :: l, rfl⟩
theorem shp_list {n : Nat} {x : D} (h : Shp ti n 25 [x]) : ∃ l : List Nod, x = .fs 3 (l.map encN) := by
  match n, h with
  | n + 1, h =>
    obtain ⟨es, hl, _, he⟩ := h
    obtain ⟨l, rfl⟩ := shp_nods he
    exact ⟨l, by simpa using hl⟩
theorem own : ownKnob Tryz.prog.godebug = none := by kernel_rfl
theorem laidOut : laidOutB Tryz.prog = true := by kernel_rfl

namespace tells
/-- For every argument and every world. -/
theorem contract (H : Type) (enc : TypeId × Value → H) (W : World) (base : Nat) (args : Array Value) (ds gs : List (DataW H)) (before : List MemPlace)
    (hval : ∀ (j : Nat) t v, Tryz.f4.params[j]? = some t → args[j]? = some v → Value.okWide Tryz.prog W .any base t v)
    (hW : DataW.Whole enc Tryz.prog Tryz.f4.params.toList Rows.viewTextsSpec.vars false W args.toList ds gs before) :
    Calls Tryz.prog 4 args W fun e W' => ∃ v, e = .returned v ∧ Rows.viewTextsSpec.post enc Tryz.prog Tryz.f4 false true false false W args v W' := by
  have hW' := hW
  obtain ⟨p, q, hA, hV, rfl, _, _⟩ := hW
  have hA' : DataW.TrodAll enc Tryz.prog W 0 (fun _ => true) true [9, 25] args.toList ds p := hA
  obtain ⟨v0, _, d0, _, p0, _, e0, rfl, _, h0, hA1⟩ := trodAll_cons hA'
  obtain ⟨v1, _, d1, _, p1, _, rfl, rfl, _, h1, hA2⟩ := trodAll_cons hA1
  obtain ⟨rfl, rfl, _⟩ := trodAll_nil hA2
  obtain rfl : args = #[v0, v1] := by cases args; simp_all
  obtain ⟨rfl, rfl⟩ := trodVars_none hV
  obtain ⟨n0, x0, s0, a0⟩ := arg_one ti_ok closed (t := 9) (by decide) (ty := _) rfl rfl (hval 0 9 v0 rfl rfl) h0
  obtain ⟨n1, x1, s1, a1⟩ := arg_one ti_ok closed (t := 25) (by decide) (ty := _) rfl rfl (hval 1 25 v1 rfl rfl) h1
  obtain ⟨y0, rfl⟩ := shp_st s0
  obtain ⟨y1, rfl⟩ := shp_list s1
  refine (FnC.enter (texts_ok y0 y1) (Tryz.call4 _ _) rfl ?_).mono ?_
  · intro j hj
    match j, hj with
    | 0, _ => exact a0
    | 1, _ => exact a1
  · rintro e W' ⟨rfl, hB⟩
    exact ⟨_, rfl, law_post hW' rfl rfl rfl rfl rfl Tryz.underlying4 laidOut (by decide +kernel) hB⟩

noncomputable def wit : Array Value := #[.string ⟨#[]⟩, .slice none 0 0]
noncomputable def laidWorld (os : Os) : World :=
  { World.holding Tryz.prog os ⟨#[], #[], []⟩ with heap := laidHeap (World.holding Tryz.prog os ⟨#[], #[], []⟩).heap [(3, Rows.laid_unicode_utf8_acceptRanges), (2, Rows.laid_unicode_utf8_first)] }
theorem laid_met (os : Os) : laidMet Tryz.prog Rows.viewTextsRow.laid ((laidWorld os).forCall (fun _ _ => 0) ⟨#[], wit, []⟩).memory :=
  laidMet_of_run' 8 (by kernel_rfl) (by kernel_rfl)
theorem reads (os : Os) {H : Type} (enc : TypeId × Value → H) : ∃ places, DataW.whole enc Tryz.prog ((laidWorld os).forCall (fun _ _ => 0) ⟨#[], wit, []⟩).memory Tryz.f4.params.toList Rows.viewTextsSpec.vars false wit.toList 8 = some ([.lit (.string []), .nil], [], places) :=
  ⟨[], by kernel_rfl⟩

theorem lifted (os : Os) (started : os.Started) (H : Type) (enc : TypeId × Value → H) (F : Stop.Interp) :
    ReturnsInHanded {} Tryz.checked os 4 .any ((OpenSpec.ofChange Rows.viewTextsSpec).preRow enc Tryz.prog Tryz.f4 Rows.viewTextsRow.domain false Rows.viewTextsRow.laid) (((OpenSpec.ofChange Rows.viewTextsSpec).at F).post enc Tryz.prog Tryz.f4 false true false false) := by
  obtain ⟨places, hx⟩ := reads os enc
  refine returnsInHanded_of_row (C := Tryz.checked) (s := OpenSpec.ofChange Rows.viewTextsSpec) own started (by kernel_rfl) Tryz.func4
    (witness_row_at (enc := enc) (C := Tryz.checked) false (laidWorld os) wit rfl (by kernel_rfl) (by kernel_rfl) (by kernel_rfl)
      (OpenSpec.preRow_of_cond 8 hx (by kernel_rfl) (fun k hk => by cases hk) (by kernel_rfl) (laid_met os))) ?_
  intro W base args ds gs before hval hW _ _ _ _ _ _
  exact contract H enc W base args ds gs before hval hW

theorem said : Rows.ViewTextsSaid :=
  OpenClaim.holds_of_cond 4 Tryz.f4 rfl rfl rfl rfl rfl rfl rfl ⟨rfl, rfl, rfl, rfl, rfl⟩ rfl rfl rfl rfl rfl (by kernel_rfl) Tryz.func4 (by kernel_rfl)
    (of_decide_eq_true (by kernel_rfl)) (by unfold Func.isWrapper; first | (rw [if_pos (by decide +kernel)]; kernel_rfl) | (rw [if_neg (by decide +kernel)]; exact ⟨rfl, rfl⟩))
    (fun os started H enc _ F => by rw [OpenClaim.pre_eq_preRow]; exact lifted os started H enc F)

theorem plain (f : FuncId) (fn : Func) (hf : Tryz.pinned.checked.prog.funcNamed "flotsam/flotsamlaw14.ViewTexts" = some f) (hfn : Tryz.pinned.checked.prog.funcs[f]? = some fn) :
    false = Tryz.pinned.checked.prog.looks [] ∧ ∀ (j : Nat) t, fn.params[j]? = some t → Tryz.pinned.checked.prog.wantsStandIn t = false := by
  obtain rfl : f = 4 := Option.some.inj ((show Tryz.prog.funcNamed "flotsam/flotsamlaw14.ViewTexts" = some 4 by kernel_rfl).symm.trans hf) |>.symm
  obtain rfl : fn = Tryz.f4 := (Option.some.inj (Tryz.func4.symm.trans hfn)).symm
  refine ⟨by kernel_rfl, fun j t ht => ?_⟩
  have hall : ∀ t ∈ Tryz.f4.params, Tryz.prog.wantsStandIn t = false := by decide +kernel
  exact hall t (Array.mem_of_getElem? ht)

/-- The card. -/
theorem card : Rows.ViewTextsCardSaid :=
  Claim7.holds_tied_plain_at .later [] _ _ _ _ said (fun _ h => by cases h) (by kernel_rfl) (fun _ h => by cases h) viewTexts_row_tie rfl ⟨rfl, rfl⟩ (by kernel_rfl) rfl plain (by kernel_rfl)
end tells
end Go.Proofs.YtijdbjjkfkjihaaGreatDoor
