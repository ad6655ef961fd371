/- Contracts of the functions that the law reaches, and the law. Conditions: none. -/
import Derived.Test.YtmfokpfddponjaaGreatDoorKF
set_option maxRecDepth 100000
set_option linter.all false
namespace Go.Proofs.YtmfokpfddponjaaGreatDoor
open Go.Sy
theorem gB0 {p q : Prop} (k : q) (h : q → p := by intro k; with_reducible first | exact g_i64 k | exact g_u64 k | exact g_u8 k | exact g_iq k | exact g_uq k | exact g_rem k | exact LetN.mk k | exact g_hm k | exact g_hb k | exact g_lit k) : p := h k
structure Lv where
 N : List (List UInt8)
 k : Nat
 n : Int
 w : D
def rgD (k : Nat) (f : Func) : Ob :=
 match rg (bd f) with
 | some (ps, asg, body) => .loop k ps asg body .done (some .ret)
 | none => .frame 0 []
def tm0 (O : List (List D)) : List (Nat × Ob) := [(7, .tail 42 true), (2, .cells 1 [.ts 3 O 7]), (1, .cells 1 [.d (.bl false)]), (0, .cells 1 [.nl 3])]
def tm1 (O : List (List D)) : List (Nat × Ob) := [(7, .tail 42 true), (2, .cells 1 [.ts 3 O 7]), (1, .cells 1 [.d (.bl false)]), (0, .cells 1 [.ts 3 O 7])]
def c3 (d : Option Dk) (n : Int) (w : D) (bd bn bw : Nat) : List (Nat × Ob) := [(bd, .cells 1 [.d (encD d)]), (bn, .cells 1 [.d (.it .i64 n)]), (bw, .cells 1 [.d w])]
def slI (bd bn bw Y : Nat) (N : List (List UInt8)) (k : Nat) : List (Nat × AV) := [(1, .ptr bw 0), (2, .ptr bd 0), (3, .ptr bn 0), (4, .ptr Y 0), (18, .d (.fs 1 (vS N))), (19, .d (.it .i64 (vS N).length)), (20, .d (.it .i64 (k : Nat)))]
def clo (bd bn bw : Nat) : AV := .fn (.func 46) [] [.ptr bw 0, .ptr bd 0, .ptr bn 0]
theorem drop_at14 {α : Type} {l : List α} {j : Nat} {c : α} (h : l[j]? = some c) : l.drop j = c :: l.drop (j + 1) := by
 obtain ⟨hj, rfl⟩ := List.getElem?_eq_some_iff.1 h
 exact List.drop_eq_getElem_cons hj
theorem fndV_eq (o : Option Nat) : fndV o = .tup [.d (.it .i64 (match o with | some k => (k : Nat) | none => 0)), .d (.bl o.isSome)] := by cases o <;> rfl
theorem join_cons : ∀ (l : List (List UInt8)) (a : List UInt8), 47 :: Lib.join (a :: l) [47] = joinP (a :: l)
 | [], a => by simp [joinP, Lib.join, List.intercalate]
 | b :: t, a => by
  have e : Lib.join (a :: b :: t) [47] = a ++ 47 :: Lib.join (b :: t) [47] := by simp [Lib.join, List.intercalate]
  rw [e, join_cons t b]
  simp [joinP]
theorem joinP_len8 : ∀ (l : List (List UInt8)), (∀ s ∈ l, s.length ≤ 8) → (joinP l).length ≤ 9 * l.length
 | [], _ => by simp [joinP]
 | a :: l, h => by
  have h1 := joinP_len8 l fun s hs => h s (List.mem_cons_of_mem _ hs)
  have h2 := h a List.mem_cons_self
  show ((47 :: a) ++ joinP l).length ≤ _
  rw [List.length_append, List.length_cons, List.length_cons]; omega
theorem join_way (l : List (List UInt8)) (hl : ∀ s ∈ l, s.length ≤ 8) (h4 : l.length ≤ 4) (hne : l ≠ []) : FnC Tryz.prog 50 [.d (.fs 1 (vS l))] (.d (.st (joinR l))) := by
 have hlen := joinP_len8 l hl
 have e : 47 :: Lib.join l [47] = joinR l := by
  unfold joinR
  rw [if_neg hne]
  match l, hne with
  | a :: t, _ => exact join_cons t a
 have e2 : joinR l = joinP l := if_neg hne
 have := congrArg List.length e
 rw [List.length_cons, e2] at this
 have h := pathJoin_ok l (by omega) (by omega)
 rw [e] at h
 exact h
def E0 (FT FI : Func) (R : Nat → Func → Ob) (d : Option Dk) (n : Int) (w : D) (tl : List (Nat × Ob)) : List (Nat × Ob) := (9, R 8 FT) :: (8, .frame 23 [(2, .ptr 0 0), (3, .ptr 1 0), (4, .ptr 2 0), (11, clo 4 5 6)]) :: (c3 d n w 4 5 6 ++ tl)
def E1 (FT FI : Func) (R : Nat → Func → Ob) (d : Option Dk) (n : Int) (w : D) (v0 : Lv) (tl : List (Nat × Ob)) : List (Nat × Ob) := (18, R 17 FI) :: (17, .frame 73 (slI 4 5 6 10 v0.N v0.k ++ [(65, clo 14 15 16)])) :: (c3 d n w 14 15 16 ++ (10, .cells 1 [.yld 9]) :: E0 FT FI R d v0.n v0.w tl)
def E2 (FT FI : Func) (R : Nat → Func → Ob) (d : Option Dk) (n : Int) (w : D) (v0 v1 : Lv) (tl : List (Nat × Ob)) : List (Nat × Ob) := (27, R 26 FI) :: (26, .frame 73 (slI 14 15 16 19 v1.N v1.k ++ [(65, clo 23 24 25)])) :: (c3 d n w 23 24 25 ++ (19, .cells 1 [.yld 18]) :: E1 FT FI R d v1.n v1.w v0 tl)
def E3 (FT FI : Func) (R : Nat → Func → Ob) (d : Option Dk) (n : Int) (w : D) (v0 v1 v2 : Lv) (tl : List (Nat × Ob)) : List (Nat × Ob) := (36, R 35 FI) :: (35, .frame 73 (slI 23 24 25 28 v2.N v2.k ++ [(65, clo 32 33 34)])) :: (c3 d n w 32 33 34 ++ (28, .cells 1 [.yld 27]) :: E2 FT FI R d v2.n v2.w v0 v1 tl)
def E4 (FT FI : Func) (R : Nat → Func → Ob) (d : Option Dk) (n : Int) (w : D) (v0 v1 v2 v3 : Lv) (tl : List (Nat × Ob)) : List (Nat × Ob) := (45, R 44 FI) :: (44, .frame 73 (slI 32 33 34 37 v3.N v3.k ++ [(65, clo 41 42 43)])) :: (c3 d n w 41 42 43 ++ (37, .cells 1 [.yld 36]) :: E3 FT FI R d v3.n v3.w v0 v1 v2 tl)
set_option maxHeartbeats 8000000 in
theorem lvl4 (d : Option Dk) (hd : DkOK d) (v0 v1 v2 v3 : Lv) (n : Int) (way : List (List UInt8)) (hw : way.length = 4) (hwn : ∀ s ∈ way, s.length ≤ 8) (out : List Nod) (ho : out.length ≤ 64) (O : List (List D)) (hO : O = out.map encN) (G : Exit → S → Prop)
  (hA1 : (out ++ subV (rdS d) 0 n way).length ≤ 64 → G .ret ⟨[], E4 Tryz.f11 Tryz.f46 rgL d n (.fs 1 (vS way)) v0 v1 v2 v3 (tm0 ((out ++ subV (rdS d) 0 n way).map encN)), 46⟩) (hA2 : (out ++ subV (rdS d) 0 n way).length ≤ 64 → G .normal ⟨[], E4 Tryz.f11 Tryz.f46 rgL d n (.fs 1 (vS way)) v0 v1 v2 v3 (tm0 ((out ++ subV (rdS d) 0 n way).map encN)), 46⟩) (hB : ¬ (out ++ subV (rdS d) 0 n way).length ≤ 64 → G .ret ⟨[], E4 Tryz.f11 Tryz.f46 rgD d n (.fs 1 (vS way)) v0 v1 v2 v3 (tm1 (((out ++ subV (rdS d) 0 n way).take 64).map encN)), 46⟩) :
  vc Tryz.prog ti 72 (bd Tryz.f46) (fun e υ => ∃ τ, Wk 72 υ τ ∧ G e τ) ⟨idx 0 [.yld 45, .ptr 43 0, .ptr 41 0, .ptr 42 0], E4 Tryz.f11 Tryz.f46 rgL d n (.fs 1 (vS way)) v0 v1 v2 v3 (tm0 O), 46⟩ := by
 have hwl : (vS way).length = way.length := List.length_map ..
 have hT : out ++ subV (rdS d) 0 n way = out := List.append_nil _
 rw [hT, ← hO] at hA1
 (repeat' ((conv=>whnf);first|with_reducible refine gA ?_|(with_reducible first|refine gB ?_|refine gZ (fun x hx hu=>?_)|refine gY (fun x hx=>?_)|refine gE ?_|refine Both.mk ?_ ?_|refine gS (fun h=>?_) (fun h=>?_)|refine Spl.nt ?_|refine Spl.mk (fun h=>?_) (fun h=>?_))))
 exact ⟨⟨[], E4 Tryz.f11 Tryz.f46 rgL d n (.fs 1 (vS way)) v0 v1 v2 v3 (tm0 O), 46⟩, Wk.enF trivial (by (repeat (first | exact trivial | refine And.intro (obw_eq rfl (by with_unfolding_all exact rfl)) ?_ | refine And.intro (obw_fr (by with_unfolding_all exact rfl) (by (repeat (first | exact trivial | refine And.intro (by with_unfolding_all exact rfl) ?_)))) ?_))) rfl, hA1 ho⟩
set_option maxHeartbeats 16000000 in
theorem lvl3 (d : Option Dk) (hd : DkOK d) (v0 v1 v2 : Lv) (n : Int) (way : List (List UInt8)) (hw : way.length = 3) (hwn : ∀ s ∈ way, s.length ≤ 8) (out : List Nod) (ho : out.length ≤ 64) (O : List (List D)) (hO : O = out.map encN) (G : Exit → S → Prop)
  (hA1 : (out ++ subV (rdS d) 1 n way).length ≤ 64 → G .ret ⟨[], E3 Tryz.f11 Tryz.f46 rgL d n (.fs 1 (vS way)) v0 v1 v2 (tm0 ((out ++ subV (rdS d) 1 n way).map encN)), 37⟩) (hA2 : (out ++ subV (rdS d) 1 n way).length ≤ 64 → G .normal ⟨[], E3 Tryz.f11 Tryz.f46 rgL d n (.fs 1 (vS way)) v0 v1 v2 (tm0 ((out ++ subV (rdS d) 1 n way).map encN)), 37⟩) (hB : ¬ (out ++ subV (rdS d) 1 n way).length ≤ 64 → G .ret ⟨[], E3 Tryz.f11 Tryz.f46 rgD d n (.fs 1 (vS way)) v0 v1 v2 (tm1 (((out ++ subV (rdS d) 1 n way).take 64).map encN)), 37⟩) :
  vc Tryz.prog ti 72 (bd Tryz.f46) (fun e υ => ∃ τ, Wk 72 υ τ ∧ G e τ) ⟨idx 0 [.yld 36, .ptr 34 0, .ptr 32 0, .ptr 33 0], E3 Tryz.f11 Tryz.f46 rgL d n (.fs 1 (vS way)) v0 v1 v2 (tm0 O), 37⟩ := by
 have hwl : (vS way).length = way.length := List.length_map ..
 have hnl : (vS (nms (rdS d) n)).length = (nms (rdS d) n).length := List.length_map ..
 have hls := list_ok d hd n
 have hkb := nms_len (rdS d) n
 subst hO
 (repeat' ((conv=>whnf);first|with_reducible refine gA ?_|((with_reducible refine callE_id ?_); refine CallE.con ⟨_, hls, ?_⟩)|(with_reducible first|refine gB ?_|refine gZ (fun x hx hu=>?_)|refine gY (fun x hx=>?_)|refine gE ?_|refine Both.mk ?_ ?_|refine gS (fun h=>?_) (fun h=>?_)|refine Spl.nt ?_|refine Spl.mk (fun h=>?_) (fun h=>?_))))
 conv => whnf
 refine LoopS.wk (τ := ⟨slI 32 33 34 37 (nms (rdS d) n) 0, (37, .cells 1 [.yld 36]) :: E3 Tryz.f11 Tryz.f46 rgL d n (.fs 1 (vS way)) v0 v1 v2 (tm0 (out.map encN)), 38⟩) (Wk.enF (by (repeat (first | exact trivial | refine And.intro rfl ?_))) (by (repeat (first | exact trivial | refine And.intro (obw_eq rfl (by with_unfolding_all exact rfl)) ?_ | refine And.intro (obw_fr (by with_unfolding_all exact rfl) (by (repeat (first | exact trivial | refine And.intro (by with_unfolding_all exact rfl) ?_)))) ?_))) rfl) ?_
 refine loop_ruleW ti_ok (fun x : Nat × List Nod => x.1 ≤ (nms (rdS d) n).length ∧ x.2.length ≤ 64 ∧ x.2 ++ subL (rdS d) 0 n way ((nms (rdS d) n).drop x.1) = out ++ subV (rdS d) 1 n way) (fun x : Nat × List Nod => ⟨slI 32 33 34 37 (nms (rdS d) n) x.1, (37, .cells 1 [.yld 36]) :: E3 Tryz.f11 Tryz.f46 rgL d n (.fs 1 (vS way)) v0 v1 v2 (tm0 (x.2.map encN)), 38⟩) (fun x => (nms (rdS d) n).length - x.1) (0, out) ⟨Nat.zero_le _, ho, rfl⟩ (Wk.en ⟨by (repeat (first | exact trivial | refine And.intro rfl ?_)), by (repeat (first | exact trivial | refine And.intro rfl ?_)), rfl⟩) ?_
 intro ⟨k, out1⟩ ⟨k1, ho1, hT⟩
 dsimp only at k1 ho1 hT
 have hol : (out1.map encN).length = out1.length := List.length_map ..
 rcases Nat.lt_or_ge k (nms (rdS d) n).length with hkl | hkl
 ·obtain ⟨s, hs⟩ := lt_get hkl
  have hx : (vS (nms (rdS d) n))[k]? = some [.st s] := by unfold vS; rw [List.getElem?_map, hs]; rfl
  have hsn := name_len (nms_name (rdS d) n s (List.mem_of_getElem? hs))
  have hwn2 : ∀ t ∈ way ++ [s], t.length ≤ 8 := fun t ht => by
   rcases List.mem_append.1 ht with ht | ht
   ·exact hwn t ht
   ·rw [List.mem_singleton.1 ht]; exact hsn
  have hw2 : (way ++ [s]).length = 4 := by rw [List.length_append, hw]; rfl
  have hf := find_ok d hd n s
  rw [fndV_eq] at hf
  have he := entry_ok d hd (kOf (rdS d) n s)
  have hi := inode_ok d hd (mOf (rdS d) n s)
  have hj := join_way (way ++ [s]) hwn2 (by omega) (by simp)
  have hda := data_ok d hd (inoAt (rdS d) (mOf (rdS d) n s)) (inoAt_RI _ _)
  rw [drop_at14 hs, subL_cons] at hT
  have hwo : vS way ++ [[.st s]] = vS (way ++ [s]) := by unfold vS; rw [List.map_append]; rfl
  have htk : (List.take (((vS way).length : Nat) : Int).toNat (vS way)).length ≤ 4 := by rw [List.length_take]; omega
  have hvl : (vS (way ++ [s])).length = 4 := by unfold vS; rw [List.length_map]; exact hw2
  have hwo2 : (vS way).take (((vS way).length : Nat) : Int).toNat ++ [[.st s]] = vS (way ++ [s]) := by rw [List.take_of_length_le (by omega)]; exact hwo
  have hmap : (out1.map encN ++ [encN (nodV (rdS d) way n s)]) = (out1 ++ [(nodV (rdS d) way n s)]).map encN := by rw [List.map_append]; rfl
  have hE : out1.length = 64 → G .ret ⟨[], E3 Tryz.f11 Tryz.f46 rgD d n (.fs 1 (vS way)) v0 v1 v2 (tm1 (out1.map encN)), 37⟩ := fun h => by
   have := hB (by rw [← hT, List.length_append, List.length_cons]; omega)
   rw [← hT, List.take_left' h] at this
   exact this
  have hT2 : (inoAt (rdS d) (mOf (rdS d) n s)).k = 2 → ((out1 ++ [(nodV (rdS d) way n s)]) ++ subV (rdS d) 0 (mOf (rdS d) n s) (way ++ [s])) ++ subL (rdS d) 0 n way ((nms (rdS d) n).drop (k + 1)) = out ++ subV (rdS d) 1 n way := fun h => by
   rw [← hT, if_pos h]; simp only [List.append_assoc, List.cons_append, List.nil_append]
  have hT3 : ¬ (inoAt (rdS d) (mOf (rdS d) n s)).k = 2 → (out1 ++ [(nodV (rdS d) way n s)]) ++ subL (rdS d) 0 n way ((nms (rdS d) n).drop (k + 1)) = out ++ subV (rdS d) 1 n way := fun h => by
   rw [← hT, if_neg h]; simp only [List.append_assoc, List.cons_append, List.nil_append]
  have hE2 : (inoAt (rdS d) (mOf (rdS d) n s)).k = 2 → ¬ ((out1 ++ [(nodV (rdS d) way n s)]) ++ subV (rdS d) 0 (mOf (rdS d) n s) (way ++ [s])).length ≤ 64 → G .ret ⟨[], E3 Tryz.f11 Tryz.f46 rgD d n (.fs 1 (vS way)) v0 v1 v2 (tm1 ((((out1 ++ [(nodV (rdS d) way n s)]) ++ subV (rdS d) 0 (mOf (rdS d) n s) (way ++ [s])).take 64).map encN)), 37⟩ := fun h h2 => by
   have := hB (by rw [← hT2 h, List.length_append]; omega)
   rw [← hT2 h, List.take_append_of_le_length (by omega)] at this
   exact this
  have hmu : (nms (rdS d) n).length - (k + 1) < (nms (rdS d) n).length - k := by omega
  clear hT hB
  (repeat' ((conv=>whnf);first|with_reducible refine gA ?_|((with_reducible refine callE_id ?_); first | refine CallE.con ⟨_, hf, ?_⟩ | refine CallE.con ⟨_, he, ?_⟩ | refine CallE.con ⟨_, hi, ?_⟩ | refine CallE.con ⟨_, hj, ?_⟩ | refine CallE.con ⟨_, hda, ?_⟩ | refine CallE.inl ?_) | refine CallP.mk ⟨_, hj, ?_⟩ | refine CallP.mk ⟨_, hda, ?_⟩|(with_reducible first|refine gB0 ?_|refine gZ (fun x hx hu=>?_)|refine gY (fun x hx=>?_)|refine gE ?_|refine Both.mk ?_ ?_|refine gS (fun h=>?_) (fun h=>?_)|refine Spl.nt ?_|refine Spl.mk (fun h=>?_) (fun h=>?_))))
  refine DrawS.wk (τ := ⟨(9, .d (.it .i64 (mOf (rdS d) n s))) :: (10, .ptr 38 0) :: (11, .d (.fs 1 (vS (way ++ [s])))) :: slI 32 33 34 37 (nms (rdS d) n) k, (39, .tag 38 46) :: (38, .cells 6 ((encI (inoAt (rdS d) (mOf (rdS d) n s))).map .d)) :: (37, .cells 1 [.yld 36]) :: E3 Tryz.f11 Tryz.f46 rgL d n (.fs 1 (vS way)) v0 v1 v2 (tm0 (out1.map encN)), 40⟩) ?_ ?_
  ·exact Wk.vwL (by (repeat (first | exact trivial | refine And.intro (Vw.eq rfl) ?_ | refine And.intro (Vw.ts' hwo2) ?_))) (by (repeat (first | exact trivial | refine And.intro (VwO.same _) ?_))) rfl
  (repeat' ((conv=>whnf);first|with_reducible refine gA ?_|((with_reducible refine callE_id ?_); first | refine CallE.con ⟨_, hf, ?_⟩ | refine CallE.con ⟨_, he, ?_⟩ | refine CallE.con ⟨_, hi, ?_⟩ | refine CallE.con ⟨_, hj, ?_⟩ | refine CallE.con ⟨_, hda, ?_⟩ | refine CallE.inl ?_) | refine CallP.mk ⟨_, hj, ?_⟩ | refine CallP.mk ⟨_, hda, ?_⟩|(with_reducible first|refine gB ?_|refine gZ (fun x hx hu=>?_)|refine gY (fun x hx=>?_)|refine gE ?_|refine Both.mk ?_ ?_|refine gS (fun h=>?_) (fun h=>?_)|refine Spl.nt ?_|refine Spl.mk (fun h=>?_) (fun h=>?_))))
  refine YieldI.post ?_
  refine YieldI.intro ti_ok (by with_unfolding_all exact rfl) (by with_unfolding_all exact rfl) (by with_unfolding_all exact rfl) ?_
  (repeat' ((conv=>whnf);first|with_reducible refine gA ?_|with_reducible refine YieldI.intro ti_ok (by with_unfolding_all exact rfl) (by with_unfolding_all exact rfl) (by with_unfolding_all exact rfl) ?_|(with_reducible first|refine gB ?_|refine gZ (fun x hx hu=>?_)|refine gY (fun x hx=>?_)|refine gE ?_|refine Both.mk ?_ ?_|refine gS (fun h=>?_) (fun h=>?_)|refine Spl.nt ?_|refine Spl.mk (fun h=>?_) (fun h=>?_))))
  ·refine ⟨⟨[(57, .d (.bl false))], E3 Tryz.f11 Tryz.f46 rgD d n (.fs 1 (vS way)) v0 v1 v2 (tm1 (out1.map encN)), 38⟩, Wk.enF (by (repeat (first | exact trivial | refine And.intro rfl ?_))) (by (repeat (first | exact trivial | refine And.intro (obw_eq rfl (by with_unfolding_all exact rfl)) ?_ | refine And.intro (obw_fr (by with_unfolding_all exact rfl) (by (repeat (first | exact trivial | refine And.intro (by with_unfolding_all exact rfl) ?_)))) ?_))) rfl, ?_⟩
   (repeat' ((conv=>whnf);first|with_reducible refine gA ?_|(with_reducible first|refine gB ?_|refine gZ (fun x hx hu=>?_)|refine gY (fun x hx=>?_)|refine gE ?_|refine Both.mk ?_ ?_|refine gS (fun h=>?_) (fun h=>?_)|refine Spl.nt ?_|refine Spl.mk (fun h=>?_) (fun h=>?_))))
   exact ⟨⟨[], E3 Tryz.f11 Tryz.f46 rgD d n (.fs 1 (vS way)) v0 v1 v2 (tm1 (out1.map encN)), 37⟩, Wk.enF trivial (by (repeat (first | exact trivial | refine And.intro (obw_eq rfl (by with_unfolding_all exact rfl)) ?_ | refine And.intro (obw_fr (by with_unfolding_all exact rfl) (by (repeat (first | exact trivial | refine And.intro (by with_unfolding_all exact rfl) ?_)))) ?_))) rfl, hE (by omega)⟩
  ·have hlo : (out1 ++ [(nodV (rdS d) way n s)]).length ≤ 64 := by rw [List.length_append, List.length_singleton]; omega
   refine ⟨⟨(57, .d (.bl true)) :: (9, .d (.it .i64 (mOf (rdS d) n s))) :: (10, .ptr 38 0) :: (11, .d (.fs 1 (vS (way ++ [s])))) :: slI 32 33 34 37 (nms (rdS d) n) k, (39, .tag 38 46) :: (38, .cells 6 ((encI (inoAt (rdS d) (mOf (rdS d) n s))).map .d)) :: (37, .cells 1 [.yld 36]) :: E3 Tryz.f11 Tryz.f46 rgL d n (.fs 1 (vS way)) v0 v1 v2 (tm0 (out1.map encN ++ [encN (nodV (rdS d) way n s)])), 40⟩, Wk.enF (by (repeat (first | exact trivial | refine And.intro rfl ?_))) (by (repeat (first | exact trivial | refine And.intro (obw_eq rfl (by with_unfolding_all exact rfl)) ?_ | refine And.intro (obw_fr (by with_unfolding_all exact rfl) (by (repeat (first | exact trivial | refine And.intro (by with_unfolding_all exact rfl) ?_)))) ?_))) rfl, ?_⟩
   by_cases hk2 : (inoAt (rdS d) (mOf (rdS d) n s)).k = 2
   ·(repeat' ((conv=>whnf);first|with_reducible refine gA ?_|((with_reducible refine callE_id ?_); refine CallE.inl ?_) | with_reducible refine CallI.inl ti_ok i25 rfl ?_|(with_reducible first|refine gB ?_|refine gZ (fun x hx hu=>?_)|refine gY (fun x hx=>?_)|refine gE ?_|refine Both.mk ?_ ?_|refine gS (fun h=>?_) (fun h=>?_)|refine Spl.nt ?_|refine Spl.mk (fun h=>?_) (fun h=>?_))))
    conv => whnf
    refine RangeS.wk (τ := ⟨slI 32 33 34 37 (nms (rdS d) n) k ++ [(65, clo 41 42 43)], c3 d (mOf (rdS d) n s) (.fs 1 (vS (way ++ [s]))) 41 42 43 ++ (37, .cells 1 [.yld 36]) :: E3 Tryz.f11 Tryz.f46 rgL d n (.fs 1 (vS way)) v0 v1 v2 (tm0 (out1.map encN ++ [encN (nodV (rdS d) way n s)])), 44⟩) (Wk.enF (by (repeat (first | exact trivial | refine And.intro rfl ?_))) (by (repeat (first | exact trivial | refine And.intro (obw_eq rfl (by with_unfolding_all exact rfl)) ?_ | refine And.intro (obw_fr (by with_unfolding_all exact rfl) (by (repeat (first | exact trivial | refine And.intro (by with_unfolding_all exact rfl) ?_)))) ?_))) rfl) ?_
    refine RangeS.introW ti_ok i46 rfl rfl (lvl4 d hd v0 v1 v2 ⟨nms (rdS d) n, k, n, .fs 1 (vS way)⟩ (mOf (rdS d) n s) (way ++ [s]) hw2 hwn2 (out1 ++ [(nodV (rdS d) way n s)]) hlo (out1.map encN ++ [encN (nodV (rdS d) way n s)]) hmap _ ?_ ?_ ?_)
    ·intro h2
     (repeat' ((conv=>whnf);first|with_reducible refine gA ?_|(with_reducible first|refine gB ?_|refine gZ (fun x hx hu=>?_)|refine gY (fun x hx=>?_)|refine gE ?_|refine Both.mk ?_ ?_|refine gS (fun h=>?_) (fun h=>?_)|refine Spl.nt ?_|refine Spl.mk (fun h=>?_) (fun h=>?_))))
     exact ⟨(k + 1, (out1 ++ [(nodV (rdS d) way n s)]) ++ subV (rdS d) 0 (mOf (rdS d) n s) (way ++ [s])), ⟨hkl, h2, hT2 hk2⟩, by dsimp only; omega, Wk.enF (And.intro rfl (And.intro rfl (And.intro rfl (And.intro rfl (And.intro rfl (And.intro rfl (And.intro (it_eq (by first | omega | (dsimp only; omega))) trivial))))))) (by (repeat (first | exact trivial | refine And.intro (obw_eq rfl (by with_unfolding_all exact rfl)) ?_ | refine And.intro (obw_fr (by with_unfolding_all exact rfl) (by (repeat (first | exact trivial | refine And.intro (by with_unfolding_all exact rfl) ?_)))) ?_))) rfl⟩
    ·intro h2
     (repeat' ((conv=>whnf);first|with_reducible refine gA ?_|(with_reducible first|refine gB ?_|refine gZ (fun x hx hu=>?_)|refine gY (fun x hx=>?_)|refine gE ?_|refine Both.mk ?_ ?_|refine gS (fun h=>?_) (fun h=>?_)|refine Spl.nt ?_|refine Spl.mk (fun h=>?_) (fun h=>?_))))
     exact ⟨(k + 1, (out1 ++ [(nodV (rdS d) way n s)]) ++ subV (rdS d) 0 (mOf (rdS d) n s) (way ++ [s])), ⟨hkl, h2, hT2 hk2⟩, by dsimp only; omega, Wk.enF (And.intro rfl (And.intro rfl (And.intro rfl (And.intro rfl (And.intro rfl (And.intro rfl (And.intro (it_eq (by first | omega | (dsimp only; omega))) trivial))))))) (by (repeat (first | exact trivial | refine And.intro (obw_eq rfl (by with_unfolding_all exact rfl)) ?_ | refine And.intro (obw_fr (by with_unfolding_all exact rfl) (by (repeat (first | exact trivial | refine And.intro (by with_unfolding_all exact rfl) ?_)))) ?_))) rfl⟩
    ·intro h2
     (repeat' ((conv=>whnf);first|with_reducible refine gA ?_|(with_reducible first|refine gB ?_|refine gZ (fun x hx hu=>?_)|refine gY (fun x hx=>?_)|refine gE ?_|refine Both.mk ?_ ?_|refine gS (fun h=>?_) (fun h=>?_)|refine Spl.nt ?_|refine Spl.mk (fun h=>?_) (fun h=>?_))))
     exact ⟨⟨[], E3 Tryz.f11 Tryz.f46 rgD d n (.fs 1 (vS way)) v0 v1 v2 (tm1 ((((out1 ++ [(nodV (rdS d) way n s)]) ++ subV (rdS d) 0 (mOf (rdS d) n s) (way ++ [s])).take 64).map encN)), 37⟩, Wk.enF trivial (by (repeat (first | exact trivial | refine And.intro (obw_eq rfl (by with_unfolding_all exact rfl)) ?_ | refine And.intro (obw_fr (by with_unfolding_all exact rfl) (by (repeat (first | exact trivial | refine And.intro (by with_unfolding_all exact rfl) ?_)))) ?_))) rfl, hE2 hk2 h2⟩
   ·(repeat' ((conv=>whnf);first|with_reducible refine gA ?_|(with_reducible first|refine gB ?_|refine gZ (fun x hx hu=>?_)|refine gY (fun x hx=>?_)|refine gE ?_|refine Both.mk ?_ ?_|refine gS (fun h=>?_) (fun h=>?_)|refine Spl.nt ?_|refine Spl.mk (fun h=>?_) (fun h=>?_))))
    exact ⟨(k + 1, out1 ++ [(nodV (rdS d) way n s)]), ⟨hkl, hlo, hT3 hk2⟩, hmu, wk_tr (congrArg (fun O => (⟨slI 32 33 34 37 (nms (rdS d) n) (k + 1), (37, .cells 1 [.yld 36]) :: E3 Tryz.f11 Tryz.f46 rgL d n (.fs 1 (vS way)) v0 v1 v2 (tm0 O), 38⟩ : S)) hmap) (Wk.enF (And.intro rfl (And.intro rfl (And.intro rfl (And.intro rfl (And.intro rfl (And.intro rfl (And.intro (it_eq (by first | omega | (dsimp only; omega))) trivial))))))) (by (repeat (first | exact trivial | refine And.intro (obw_eq rfl (by with_unfolding_all exact rfl)) ?_ | refine And.intro (obw_fr (by with_unfolding_all exact rfl) (by (repeat (first | exact trivial | refine And.intro (by with_unfolding_all exact rfl) ?_)))) ?_))) rfl)⟩
 ·have hN : G .normal ⟨[], E3 Tryz.f11 Tryz.f46 rgL d n (.fs 1 (vS way)) v0 v1 v2 (tm0 (out1.map encN)), 37⟩ := by
   have e : out1 = out ++ subV (rdS d) 1 n way := by
    rw [← hT, List.drop_of_length_le hkl]; exact (List.append_nil _).symm
   have := hA2 (by rw [← e]; exact ho1)
   rw [← e] at this
   exact this
  (repeat' ((conv=>whnf);first|with_reducible refine gA ?_|(with_reducible first|refine gB ?_|refine gZ (fun x hx hu=>?_)|refine gY (fun x hx=>?_)|refine gE ?_|refine Both.mk ?_ ?_|refine gS (fun h=>?_) (fun h=>?_)|refine Spl.nt ?_|refine Spl.mk (fun h=>?_) (fun h=>?_))))
  exact ⟨⟨[], E3 Tryz.f11 Tryz.f46 rgL d n (.fs 1 (vS way)) v0 v1 v2 (tm0 (out1.map encN)), 37⟩, Wk.enF trivial (by (repeat (first | exact trivial | refine And.intro (obw_eq rfl (by with_unfolding_all exact rfl)) ?_ | refine And.intro (obw_fr (by with_unfolding_all exact rfl) (by (repeat (first | exact trivial | refine And.intro (by with_unfolding_all exact rfl) ?_)))) ?_))) rfl, hN⟩
end Go.Proofs.YtmfokpfddponjaaGreatDoor
namespace Go.Proofs.YtmfokpfddponjaaGreatDoor
open Go.Sy
set_option maxHeartbeats 16000000 in
theorem lvl2 (d : Option Dk) (hd : DkOK d) (v0 v1 : Lv) (n : Int) (way : List (List UInt8)) (hw : way.length = 2) (hwn : ∀ s ∈ way, s.length ≤ 8) (out : List Nod) (ho : out.length ≤ 64) (O : List (List D)) (hO : O = out.map encN) (G : Exit → S → Prop)
  (hA1 : (out ++ subV (rdS d) 2 n way).length ≤ 64 → G .ret ⟨[], E2 Tryz.f11 Tryz.f46 rgL d n (.fs 1 (vS way)) v0 v1 (tm0 ((out ++ subV (rdS d) 2 n way).map encN)), 28⟩) (hA2 : (out ++ subV (rdS d) 2 n way).length ≤ 64 → G .normal ⟨[], E2 Tryz.f11 Tryz.f46 rgL d n (.fs 1 (vS way)) v0 v1 (tm0 ((out ++ subV (rdS d) 2 n way).map encN)), 28⟩) (hB : ¬ (out ++ subV (rdS d) 2 n way).length ≤ 64 → G .ret ⟨[], E2 Tryz.f11 Tryz.f46 rgD d n (.fs 1 (vS way)) v0 v1 (tm1 (((out ++ subV (rdS d) 2 n way).take 64).map encN)), 28⟩) :
  vc Tryz.prog ti 72 (bd Tryz.f46) (fun e υ => ∃ τ, Wk 72 υ τ ∧ G e τ) ⟨idx 0 [.yld 27, .ptr 25 0, .ptr 23 0, .ptr 24 0], E2 Tryz.f11 Tryz.f46 rgL d n (.fs 1 (vS way)) v0 v1 (tm0 O), 28⟩ := by
 have hwl : (vS way).length = way.length := List.length_map ..
 have hnl : (vS (nms (rdS d) n)).length = (nms (rdS d) n).length := List.length_map ..
 have hls := list_ok d hd n
 have hkb := nms_len (rdS d) n
 subst hO
 (repeat' ((conv=>whnf);first|with_reducible refine gA ?_|((with_reducible refine callE_id ?_); refine CallE.con ⟨_, hls, ?_⟩)|(with_reducible first|refine gB ?_|refine gZ (fun x hx hu=>?_)|refine gY (fun x hx=>?_)|refine gE ?_|refine Both.mk ?_ ?_|refine gS (fun h=>?_) (fun h=>?_)|refine Spl.nt ?_|refine Spl.mk (fun h=>?_) (fun h=>?_))))
 conv => whnf
 refine LoopS.wk (τ := ⟨slI 23 24 25 28 (nms (rdS d) n) 0, (28, .cells 1 [.yld 27]) :: E2 Tryz.f11 Tryz.f46 rgL d n (.fs 1 (vS way)) v0 v1 (tm0 (out.map encN)), 29⟩) (Wk.enF (by (repeat (first | exact trivial | refine And.intro rfl ?_))) (by (repeat (first | exact trivial | refine And.intro (obw_eq rfl (by with_unfolding_all exact rfl)) ?_ | refine And.intro (obw_fr (by with_unfolding_all exact rfl) (by (repeat (first | exact trivial | refine And.intro (by with_unfolding_all exact rfl) ?_)))) ?_))) rfl) ?_
 refine loop_ruleW ti_ok (fun x : Nat × List Nod => x.1 ≤ (nms (rdS d) n).length ∧ x.2.length ≤ 64 ∧ x.2 ++ subL (rdS d) 1 n way ((nms (rdS d) n).drop x.1) = out ++ subV (rdS d) 2 n way) (fun x : Nat × List Nod => ⟨slI 23 24 25 28 (nms (rdS d) n) x.1, (28, .cells 1 [.yld 27]) :: E2 Tryz.f11 Tryz.f46 rgL d n (.fs 1 (vS way)) v0 v1 (tm0 (x.2.map encN)), 29⟩) (fun x => (nms (rdS d) n).length - x.1) (0, out) ⟨Nat.zero_le _, ho, rfl⟩ (Wk.en ⟨by (repeat (first | exact trivial | refine And.intro rfl ?_)), by (repeat (first | exact trivial | refine And.intro rfl ?_)), rfl⟩) ?_
 intro ⟨k, out1⟩ ⟨k1, ho1, hT⟩
 dsimp only at k1 ho1 hT
 have hol : (out1.map encN).length = out1.length := List.length_map ..
 rcases Nat.lt_or_ge k (nms (rdS d) n).length with hkl | hkl
 ·obtain ⟨s, hs⟩ := lt_get hkl
  have hx : (vS (nms (rdS d) n))[k]? = some [.st s] := by unfold vS; rw [List.getElem?_map, hs]; rfl
  have hsn := name_len (nms_name (rdS d) n s (List.mem_of_getElem? hs))
  have hwn2 : ∀ t ∈ way ++ [s], t.length ≤ 8 := fun t ht => by
   rcases List.mem_append.1 ht with ht | ht
   ·exact hwn t ht
   ·rw [List.mem_singleton.1 ht]; exact hsn
  have hw2 : (way ++ [s]).length = 3 := by rw [List.length_append, hw]; rfl
  have hf := find_ok d hd n s
  rw [fndV_eq] at hf
  have he := entry_ok d hd (kOf (rdS d) n s)
  have hi := inode_ok d hd (mOf (rdS d) n s)
  have hj := join_way (way ++ [s]) hwn2 (by omega) (by simp)
  have hda := data_ok d hd (inoAt (rdS d) (mOf (rdS d) n s)) (inoAt_RI _ _)
  rw [drop_at14 hs, subL_cons] at hT
  have hwo : vS way ++ [[.st s]] = vS (way ++ [s]) := by unfold vS; rw [List.map_append]; rfl
  have htk : (List.take (((vS way).length : Nat) : Int).toNat (vS way)).length ≤ 4 := by rw [List.length_take]; omega
  have hvl : (vS (way ++ [s])).length = 3 := by unfold vS; rw [List.length_map]; exact hw2
  have hwo2 : (vS way).take (((vS way).length : Nat) : Int).toNat ++ [[.st s]] = vS (way ++ [s]) := by rw [List.take_of_length_le (by omega)]; exact hwo
  have hmap : (out1.map encN ++ [encN (nodV (rdS d) way n s)]) = (out1 ++ [(nodV (rdS d) way n s)]).map encN := by rw [List.map_append]; rfl
  have hE : out1.length = 64 → G .ret ⟨[], E2 Tryz.f11 Tryz.f46 rgD d n (.fs 1 (vS way)) v0 v1 (tm1 (out1.map encN)), 28⟩ := fun h => by
   have := hB (by rw [← hT, List.length_append, List.length_cons]; omega)
   rw [← hT, List.take_left' h] at this
   exact this
  have hT2 : (inoAt (rdS d) (mOf (rdS d) n s)).k = 2 → ((out1 ++ [(nodV (rdS d) way n s)]) ++ subV (rdS d) 1 (mOf (rdS d) n s) (way ++ [s])) ++ subL (rdS d) 1 n way ((nms (rdS d) n).drop (k + 1)) = out ++ subV (rdS d) 2 n way := fun h => by
   rw [← hT, if_pos h]; simp only [List.append_assoc, List.cons_append, List.nil_append]
  have hT3 : ¬ (inoAt (rdS d) (mOf (rdS d) n s)).k = 2 → (out1 ++ [(nodV (rdS d) way n s)]) ++ subL (rdS d) 1 n way ((nms (rdS d) n).drop (k + 1)) = out ++ subV (rdS d) 2 n way := fun h => by
   rw [← hT, if_neg h]; simp only [List.append_assoc, List.cons_append, List.nil_append]
  have hE2 : (inoAt (rdS d) (mOf (rdS d) n s)).k = 2 → ¬ ((out1 ++ [(nodV (rdS d) way n s)]) ++ subV (rdS d) 1 (mOf (rdS d) n s) (way ++ [s])).length ≤ 64 → G .ret ⟨[], E2 Tryz.f11 Tryz.f46 rgD d n (.fs 1 (vS way)) v0 v1 (tm1 ((((out1 ++ [(nodV (rdS d) way n s)]) ++ subV (rdS d) 1 (mOf (rdS d) n s) (way ++ [s])).take 64).map encN)), 28⟩ := fun h h2 => by
   have := hB (by rw [← hT2 h, List.length_append]; omega)
   rw [← hT2 h, List.take_append_of_le_length (by omega)] at this
   exact this
  have hmu : (nms (rdS d) n).length - (k + 1) < (nms (rdS d) n).length - k := by omega
  clear hT hB
  (repeat' ((conv=>whnf);first|with_reducible refine gA ?_|((with_reducible refine callE_id ?_); first | refine CallE.con ⟨_, hf, ?_⟩ | refine CallE.con ⟨_, he, ?_⟩ | refine CallE.con ⟨_, hi, ?_⟩ | refine CallE.con ⟨_, hj, ?_⟩ | refine CallE.con ⟨_, hda, ?_⟩ | refine CallE.inl ?_) | refine CallP.mk ⟨_, hj, ?_⟩ | refine CallP.mk ⟨_, hda, ?_⟩|(with_reducible first|refine gB0 ?_|refine gZ (fun x hx hu=>?_)|refine gY (fun x hx=>?_)|refine gE ?_|refine Both.mk ?_ ?_|refine gS (fun h=>?_) (fun h=>?_)|refine Spl.nt ?_|refine Spl.mk (fun h=>?_) (fun h=>?_))))
  refine DrawS.wk (τ := ⟨(9, .d (.it .i64 (mOf (rdS d) n s))) :: (10, .ptr 29 0) :: (11, .d (.fs 1 (vS (way ++ [s])))) :: slI 23 24 25 28 (nms (rdS d) n) k, (30, .tag 29 46) :: (29, .cells 6 ((encI (inoAt (rdS d) (mOf (rdS d) n s))).map .d)) :: (28, .cells 1 [.yld 27]) :: E2 Tryz.f11 Tryz.f46 rgL d n (.fs 1 (vS way)) v0 v1 (tm0 (out1.map encN)), 31⟩) ?_ ?_
  ·exact Wk.vwL (by (repeat (first | exact trivial | refine And.intro (Vw.eq rfl) ?_ | refine And.intro (Vw.ts' hwo2) ?_))) (by (repeat (first | exact trivial | refine And.intro (VwO.same _) ?_))) rfl
  (repeat' ((conv=>whnf);first|with_reducible refine gA ?_|((with_reducible refine callE_id ?_); first | refine CallE.con ⟨_, hf, ?_⟩ | refine CallE.con ⟨_, he, ?_⟩ | refine CallE.con ⟨_, hi, ?_⟩ | refine CallE.con ⟨_, hj, ?_⟩ | refine CallE.con ⟨_, hda, ?_⟩ | refine CallE.inl ?_) | refine CallP.mk ⟨_, hj, ?_⟩ | refine CallP.mk ⟨_, hda, ?_⟩|(with_reducible first|refine gB ?_|refine gZ (fun x hx hu=>?_)|refine gY (fun x hx=>?_)|refine gE ?_|refine Both.mk ?_ ?_|refine gS (fun h=>?_) (fun h=>?_)|refine Spl.nt ?_|refine Spl.mk (fun h=>?_) (fun h=>?_))))
  refine YieldI.post ?_
  refine YieldI.intro ti_ok (by with_unfolding_all exact rfl) (by with_unfolding_all exact rfl) (by with_unfolding_all exact rfl) ?_
  (repeat' ((conv=>whnf);first|with_reducible refine gA ?_|with_reducible refine YieldI.intro ti_ok (by with_unfolding_all exact rfl) (by with_unfolding_all exact rfl) (by with_unfolding_all exact rfl) ?_|(with_reducible first|refine gB ?_|refine gZ (fun x hx hu=>?_)|refine gY (fun x hx=>?_)|refine gE ?_|refine Both.mk ?_ ?_|refine gS (fun h=>?_) (fun h=>?_)|refine Spl.nt ?_|refine Spl.mk (fun h=>?_) (fun h=>?_))))
  ·refine ⟨⟨[(57, .d (.bl false))], E2 Tryz.f11 Tryz.f46 rgD d n (.fs 1 (vS way)) v0 v1 (tm1 (out1.map encN)), 29⟩, Wk.enF (by (repeat (first | exact trivial | refine And.intro rfl ?_))) (by (repeat (first | exact trivial | refine And.intro (obw_eq rfl (by with_unfolding_all exact rfl)) ?_ | refine And.intro (obw_fr (by with_unfolding_all exact rfl) (by (repeat (first | exact trivial | refine And.intro (by with_unfolding_all exact rfl) ?_)))) ?_))) rfl, ?_⟩
   (repeat' ((conv=>whnf);first|with_reducible refine gA ?_|(with_reducible first|refine gB ?_|refine gZ (fun x hx hu=>?_)|refine gY (fun x hx=>?_)|refine gE ?_|refine Both.mk ?_ ?_|refine gS (fun h=>?_) (fun h=>?_)|refine Spl.nt ?_|refine Spl.mk (fun h=>?_) (fun h=>?_))))
   exact ⟨⟨[], E2 Tryz.f11 Tryz.f46 rgD d n (.fs 1 (vS way)) v0 v1 (tm1 (out1.map encN)), 28⟩, Wk.enF trivial (by (repeat (first | exact trivial | refine And.intro (obw_eq rfl (by with_unfolding_all exact rfl)) ?_ | refine And.intro (obw_fr (by with_unfolding_all exact rfl) (by (repeat (first | exact trivial | refine And.intro (by with_unfolding_all exact rfl) ?_)))) ?_))) rfl, hE (by omega)⟩
  ·have hlo : (out1 ++ [(nodV (rdS d) way n s)]).length ≤ 64 := by rw [List.length_append, List.length_singleton]; omega
   refine ⟨⟨(57, .d (.bl true)) :: (9, .d (.it .i64 (mOf (rdS d) n s))) :: (10, .ptr 29 0) :: (11, .d (.fs 1 (vS (way ++ [s])))) :: slI 23 24 25 28 (nms (rdS d) n) k, (30, .tag 29 46) :: (29, .cells 6 ((encI (inoAt (rdS d) (mOf (rdS d) n s))).map .d)) :: (28, .cells 1 [.yld 27]) :: E2 Tryz.f11 Tryz.f46 rgL d n (.fs 1 (vS way)) v0 v1 (tm0 (out1.map encN ++ [encN (nodV (rdS d) way n s)])), 31⟩, Wk.enF (by (repeat (first | exact trivial | refine And.intro rfl ?_))) (by (repeat (first | exact trivial | refine And.intro (obw_eq rfl (by with_unfolding_all exact rfl)) ?_ | refine And.intro (obw_fr (by with_unfolding_all exact rfl) (by (repeat (first | exact trivial | refine And.intro (by with_unfolding_all exact rfl) ?_)))) ?_))) rfl, ?_⟩
   by_cases hk2 : (inoAt (rdS d) (mOf (rdS d) n s)).k = 2
   ·(repeat' ((conv=>whnf);first|with_reducible refine gA ?_|((with_reducible refine callE_id ?_); refine CallE.inl ?_) | with_reducible refine CallI.inl ti_ok i25 rfl ?_|(with_reducible first|refine gB ?_|refine gZ (fun x hx hu=>?_)|refine gY (fun x hx=>?_)|refine gE ?_|refine Both.mk ?_ ?_|refine gS (fun h=>?_) (fun h=>?_)|refine Spl.nt ?_|refine Spl.mk (fun h=>?_) (fun h=>?_))))
    conv => whnf
    refine RangeS.wk (τ := ⟨slI 23 24 25 28 (nms (rdS d) n) k ++ [(65, clo 32 33 34)], c3 d (mOf (rdS d) n s) (.fs 1 (vS (way ++ [s]))) 32 33 34 ++ (28, .cells 1 [.yld 27]) :: E2 Tryz.f11 Tryz.f46 rgL d n (.fs 1 (vS way)) v0 v1 (tm0 (out1.map encN ++ [encN (nodV (rdS d) way n s)])), 35⟩) (Wk.enF (by (repeat (first | exact trivial | refine And.intro rfl ?_))) (by (repeat (first | exact trivial | refine And.intro (obw_eq rfl (by with_unfolding_all exact rfl)) ?_ | refine And.intro (obw_fr (by with_unfolding_all exact rfl) (by (repeat (first | exact trivial | refine And.intro (by with_unfolding_all exact rfl) ?_)))) ?_))) rfl) ?_
    refine RangeS.introW ti_ok i46 rfl rfl (lvl3 d hd v0 v1 ⟨nms (rdS d) n, k, n, .fs 1 (vS way)⟩ (mOf (rdS d) n s) (way ++ [s]) hw2 hwn2 (out1 ++ [(nodV (rdS d) way n s)]) hlo (out1.map encN ++ [encN (nodV (rdS d) way n s)]) hmap _ ?_ ?_ ?_)
    ·intro h2
     (repeat' ((conv=>whnf);first|with_reducible refine gA ?_|(with_reducible first|refine gB ?_|refine gZ (fun x hx hu=>?_)|refine gY (fun x hx=>?_)|refine gE ?_|refine Both.mk ?_ ?_|refine gS (fun h=>?_) (fun h=>?_)|refine Spl.nt ?_|refine Spl.mk (fun h=>?_) (fun h=>?_))))
     exact ⟨(k + 1, (out1 ++ [(nodV (rdS d) way n s)]) ++ subV (rdS d) 1 (mOf (rdS d) n s) (way ++ [s])), ⟨hkl, h2, hT2 hk2⟩, by dsimp only; omega, Wk.enF (And.intro rfl (And.intro rfl (And.intro rfl (And.intro rfl (And.intro rfl (And.intro rfl (And.intro (it_eq (by first | omega | (dsimp only; omega))) trivial))))))) (by (repeat (first | exact trivial | refine And.intro (obw_eq rfl (by with_unfolding_all exact rfl)) ?_ | refine And.intro (obw_fr (by with_unfolding_all exact rfl) (by (repeat (first | exact trivial | refine And.intro (by with_unfolding_all exact rfl) ?_)))) ?_))) rfl⟩
    ·intro h2
     (repeat' ((conv=>whnf);first|with_reducible refine gA ?_|(with_reducible first|refine gB ?_|refine gZ (fun x hx hu=>?_)|refine gY (fun x hx=>?_)|refine gE ?_|refine Both.mk ?_ ?_|refine gS (fun h=>?_) (fun h=>?_)|refine Spl.nt ?_|refine Spl.mk (fun h=>?_) (fun h=>?_))))
     exact ⟨(k + 1, (out1 ++ [(nodV (rdS d) way n s)]) ++ subV (rdS d) 1 (mOf (rdS d) n s) (way ++ [s])), ⟨hkl, h2, hT2 hk2⟩, by dsimp only; omega, Wk.enF (And.intro rfl (And.intro rfl (And.intro rfl (And.intro rfl (And.intro rfl (And.intro rfl (And.intro (it_eq (by first | omega | (dsimp only; omega))) trivial))))))) (by (repeat (first | exact trivial | refine And.intro (obw_eq rfl (by with_unfolding_all exact rfl)) ?_ | refine And.intro (obw_fr (by with_unfolding_all exact rfl) (by (repeat (first | exact trivial | refine And.intro (by with_unfolding_all exact rfl) ?_)))) ?_))) rfl⟩
    ·intro h2
     (repeat' ((conv=>whnf);first|with_reducible refine gA ?_|(with_reducible first|refine gB ?_|refine gZ (fun x hx hu=>?_)|refine gY (fun x hx=>?_)|refine gE ?_|refine Both.mk ?_ ?_|refine gS (fun h=>?_) (fun h=>?_)|refine Spl.nt ?_|refine Spl.mk (fun h=>?_) (fun h=>?_))))
     exact ⟨⟨[], E2 Tryz.f11 Tryz.f46 rgD d n (.fs 1 (vS way)) v0 v1 (tm1 ((((out1 ++ [(nodV (rdS d) way n s)]) ++ subV (rdS d) 1 (mOf (rdS d) n s) (way ++ [s])).take 64).map encN)), 28⟩, Wk.enF trivial (by (repeat (first | exact trivial | refine And.intro (obw_eq rfl (by with_unfolding_all exact rfl)) ?_ | refine And.intro (obw_fr (by with_unfolding_all exact rfl) (by (repeat (first | exact trivial | refine And.intro (by with_unfolding_all exact rfl) ?_)))) ?_))) rfl, hE2 hk2 h2⟩
   ·(repeat' ((conv=>whnf);first|with_reducible refine gA ?_|(with_reducible first|refine gB ?_|refine gZ (fun x hx hu=>?_)|refine gY (fun x hx=>?_)|refine gE ?_|refine Both.mk ?_ ?_|refine gS (fun h=>?_) (fun h=>?_)|refine Spl.nt ?_|refine Spl.mk (fun h=>?_) (fun h=>?_))))
    exact ⟨(k + 1, out1 ++ [(nodV (rdS d) way n s)]), ⟨hkl, hlo, hT3 hk2⟩, hmu, wk_tr (congrArg (fun O => (⟨slI 23 24 25 28 (nms (rdS d) n) (k + 1), (28, .cells 1 [.yld 27]) :: E2 Tryz.f11 Tryz.f46 rgL d n (.fs 1 (vS way)) v0 v1 (tm0 O), 29⟩ : S)) hmap) (Wk.enF (And.intro rfl (And.intro rfl (And.intro rfl (And.intro rfl (And.intro rfl (And.intro rfl (And.intro (it_eq (by first | omega | (dsimp only; omega))) trivial))))))) (by (repeat (first | exact trivial | refine And.intro (obw_eq rfl (by with_unfolding_all exact rfl)) ?_ | refine And.intro (obw_fr (by with_unfolding_all exact rfl) (by (repeat (first | exact trivial | refine And.intro (by with_unfolding_all exact rfl) ?_)))) ?_))) rfl)⟩
 ·have hN : G .normal ⟨[], E2 Tryz.f11 Tryz.f46 rgL d n (.fs 1 (vS way)) v0 v1 (tm0 (out1.map encN)), 28⟩ := by
   have e : out1 = out ++ subV (rdS d) 2 n way := by
    rw [← hT, List.drop_of_length_le hkl]; exact (List.append_nil _).symm
   have := hA2 (by rw [← e]; exact ho1)
   rw [← e] at this
   exact this
  (repeat' ((conv=>whnf);first|with_reducible refine gA ?_|(with_reducible first|refine gB ?_|refine gZ (fun x hx hu=>?_)|refine gY (fun x hx=>?_)|refine gE ?_|refine Both.mk ?_ ?_|refine gS (fun h=>?_) (fun h=>?_)|refine Spl.nt ?_|refine Spl.mk (fun h=>?_) (fun h=>?_))))
  exact ⟨⟨[], E2 Tryz.f11 Tryz.f46 rgL d n (.fs 1 (vS way)) v0 v1 (tm0 (out1.map encN)), 28⟩, Wk.enF trivial (by (repeat (first | exact trivial | refine And.intro (obw_eq rfl (by with_unfolding_all exact rfl)) ?_ | refine And.intro (obw_fr (by with_unfolding_all exact rfl) (by (repeat (first | exact trivial | refine And.intro (by with_unfolding_all exact rfl) ?_)))) ?_))) rfl, hN⟩
end Go.Proofs.YtmfokpfddponjaaGreatDoor
namespace Go.Proofs.YtmfokpfddponjaaGreatDoor
open Go.Sy
set_option maxHeartbeats 16000000 in
theorem lvl1 (d : Option Dk) (hd : DkOK d) (v0 : Lv) (n : Int) (way : List (List UInt8)) (hw : way.length = 1) (hwn : ∀ s ∈ way, s.length ≤ 8) (out : List Nod) (ho : out.length ≤ 64) (O : List (List D)) (hO : O = out.map encN) (G : Exit → S → Prop)
  (hA1 : (out ++ subV (rdS d) 3 n way).length ≤ 64 → G .ret ⟨[], E1 Tryz.f11 Tryz.f46 rgL d n (.fs 1 (vS way)) v0 (tm0 ((out ++ subV (rdS d) 3 n way).map encN)), 19⟩) (hA2 : (out ++ subV (rdS d) 3 n way).length ≤ 64 → G .normal ⟨[], E1 Tryz.f11 Tryz.f46 rgL d n (.fs 1 (vS way)) v0 (tm0 ((out ++ subV (rdS d) 3 n way).map encN)), 19⟩) (hB : ¬ (out ++ subV (rdS d) 3 n way).length ≤ 64 → G .ret ⟨[], E1 Tryz.f11 Tryz.f46 rgD d n (.fs 1 (vS way)) v0 (tm1 (((out ++ subV (rdS d) 3 n way).take 64).map encN)), 19⟩) :
  vc Tryz.prog ti 72 (bd Tryz.f46) (fun e υ => ∃ τ, Wk 72 υ τ ∧ G e τ) ⟨idx 0 [.yld 18, .ptr 16 0, .ptr 14 0, .ptr 15 0], E1 Tryz.f11 Tryz.f46 rgL d n (.fs 1 (vS way)) v0 (tm0 O), 19⟩ := by
 have hwl : (vS way).length = way.length := List.length_map ..
 have hnl : (vS (nms (rdS d) n)).length = (nms (rdS d) n).length := List.length_map ..
 have hls := list_ok d hd n
 have hkb := nms_len (rdS d) n
 subst hO
 (repeat' ((conv=>whnf);first|with_reducible refine gA ?_|((with_reducible refine callE_id ?_); refine CallE.con ⟨_, hls, ?_⟩)|(with_reducible first|refine gB ?_|refine gZ (fun x hx hu=>?_)|refine gY (fun x hx=>?_)|refine gE ?_|refine Both.mk ?_ ?_|refine gS (fun h=>?_) (fun h=>?_)|refine Spl.nt ?_|refine Spl.mk (fun h=>?_) (fun h=>?_))))
 conv => whnf
 refine LoopS.wk (τ := ⟨slI 14 15 16 19 (nms (rdS d) n) 0, (19, .cells 1 [.yld 18]) :: E1 Tryz.f11 Tryz.f46 rgL d n (.fs 1 (vS way)) v0 (tm0 (out.map encN)), 20⟩) (Wk.enF (by (repeat (first | exact trivial | refine And.intro rfl ?_))) (by (repeat (first | exact trivial | refine And.intro (obw_eq rfl (by with_unfolding_all exact rfl)) ?_ | refine And.intro (obw_fr (by with_unfolding_all exact rfl) (by (repeat (first | exact trivial | refine And.intro (by with_unfolding_all exact rfl) ?_)))) ?_))) rfl) ?_
 refine loop_ruleW ti_ok (fun x : Nat × List Nod => x.1 ≤ (nms (rdS d) n).length ∧ x.2.length ≤ 64 ∧ x.2 ++ subL (rdS d) 2 n way ((nms (rdS d) n).drop x.1) = out ++ subV (rdS d) 3 n way) (fun x : Nat × List Nod => ⟨slI 14 15 16 19 (nms (rdS d) n) x.1, (19, .cells 1 [.yld 18]) :: E1 Tryz.f11 Tryz.f46 rgL d n (.fs 1 (vS way)) v0 (tm0 (x.2.map encN)), 20⟩) (fun x => (nms (rdS d) n).length - x.1) (0, out) ⟨Nat.zero_le _, ho, rfl⟩ (Wk.en ⟨by (repeat (first | exact trivial | refine And.intro rfl ?_)), by (repeat (first | exact trivial | refine And.intro rfl ?_)), rfl⟩) ?_
 intro ⟨k, out1⟩ ⟨k1, ho1, hT⟩
 dsimp only at k1 ho1 hT
 have hol : (out1.map encN).length = out1.length := List.length_map ..
 rcases Nat.lt_or_ge k (nms (rdS d) n).length with hkl | hkl
 ·obtain ⟨s, hs⟩ := lt_get hkl
  have hx : (vS (nms (rdS d) n))[k]? = some [.st s] := by unfold vS; rw [List.getElem?_map, hs]; rfl
  have hsn := name_len (nms_name (rdS d) n s (List.mem_of_getElem? hs))
  have hwn2 : ∀ t ∈ way ++ [s], t.length ≤ 8 := fun t ht => by
   rcases List.mem_append.1 ht with ht | ht
   ·exact hwn t ht
   ·rw [List.mem_singleton.1 ht]; exact hsn
  have hw2 : (way ++ [s]).length = 2 := by rw [List.length_append, hw]; rfl
  have hf := find_ok d hd n s
  rw [fndV_eq] at hf
  have he := entry_ok d hd (kOf (rdS d) n s)
  have hi := inode_ok d hd (mOf (rdS d) n s)
  have hj := join_way (way ++ [s]) hwn2 (by omega) (by simp)
  have hda := data_ok d hd (inoAt (rdS d) (mOf (rdS d) n s)) (inoAt_RI _ _)
  rw [drop_at14 hs, subL_cons] at hT
  have hwo : vS way ++ [[.st s]] = vS (way ++ [s]) := by unfold vS; rw [List.map_append]; rfl
  have htk : (List.take (((vS way).length : Nat) : Int).toNat (vS way)).length ≤ 4 := by rw [List.length_take]; omega
  have hvl : (vS (way ++ [s])).length = 2 := by unfold vS; rw [List.length_map]; exact hw2
  have hwo2 : (vS way).take (((vS way).length : Nat) : Int).toNat ++ [[.st s]] = vS (way ++ [s]) := by rw [List.take_of_length_le (by omega)]; exact hwo
  have hmap : (out1.map encN ++ [encN (nodV (rdS d) way n s)]) = (out1 ++ [(nodV (rdS d) way n s)]).map encN := by rw [List.map_append]; rfl
  have hE : out1.length = 64 → G .ret ⟨[], E1 Tryz.f11 Tryz.f46 rgD d n (.fs 1 (vS way)) v0 (tm1 (out1.map encN)), 19⟩ := fun h => by
   have := hB (by rw [← hT, List.length_append, List.length_cons]; omega)
   rw [← hT, List.take_left' h] at this
   exact this
  have hT2 : (inoAt (rdS d) (mOf (rdS d) n s)).k = 2 → ((out1 ++ [(nodV (rdS d) way n s)]) ++ subV (rdS d) 2 (mOf (rdS d) n s) (way ++ [s])) ++ subL (rdS d) 2 n way ((nms (rdS d) n).drop (k + 1)) = out ++ subV (rdS d) 3 n way := fun h => by
   rw [← hT, if_pos h]; simp only [List.append_assoc, List.cons_append, List.nil_append]
  have hT3 : ¬ (inoAt (rdS d) (mOf (rdS d) n s)).k = 2 → (out1 ++ [(nodV (rdS d) way n s)]) ++ subL (rdS d) 2 n way ((nms (rdS d) n).drop (k + 1)) = out ++ subV (rdS d) 3 n way := fun h => by
   rw [← hT, if_neg h]; simp only [List.append_assoc, List.cons_append, List.nil_append]
  have hE2 : (inoAt (rdS d) (mOf (rdS d) n s)).k = 2 → ¬ ((out1 ++ [(nodV (rdS d) way n s)]) ++ subV (rdS d) 2 (mOf (rdS d) n s) (way ++ [s])).length ≤ 64 → G .ret ⟨[], E1 Tryz.f11 Tryz.f46 rgD d n (.fs 1 (vS way)) v0 (tm1 ((((out1 ++ [(nodV (rdS d) way n s)]) ++ subV (rdS d) 2 (mOf (rdS d) n s) (way ++ [s])).take 64).map encN)), 19⟩ := fun h h2 => by
   have := hB (by rw [← hT2 h, List.length_append]; omega)
   rw [← hT2 h, List.take_append_of_le_length (by omega)] at this
   exact this
  have hmu : (nms (rdS d) n).length - (k + 1) < (nms (rdS d) n).length - k := by omega
  clear hT hB
  (repeat' ((conv=>whnf);first|with_reducible refine gA ?_|((with_reducible refine callE_id ?_); first | refine CallE.con ⟨_, hf, ?_⟩ | refine CallE.con ⟨_, he, ?_⟩ | refine CallE.con ⟨_, hi, ?_⟩ | refine CallE.con ⟨_, hj, ?_⟩ | refine CallE.con ⟨_, hda, ?_⟩ | refine CallE.inl ?_) | refine CallP.mk ⟨_, hj, ?_⟩ | refine CallP.mk ⟨_, hda, ?_⟩|(with_reducible first|refine gB0 ?_|refine gZ (fun x hx hu=>?_)|refine gY (fun x hx=>?_)|refine gE ?_|refine Both.mk ?_ ?_|refine gS (fun h=>?_) (fun h=>?_)|refine Spl.nt ?_|refine Spl.mk (fun h=>?_) (fun h=>?_))))
  refine DrawS.wk (τ := ⟨(9, .d (.it .i64 (mOf (rdS d) n s))) :: (10, .ptr 20 0) :: (11, .d (.fs 1 (vS (way ++ [s])))) :: slI 14 15 16 19 (nms (rdS d) n) k, (21, .tag 20 46) :: (20, .cells 6 ((encI (inoAt (rdS d) (mOf (rdS d) n s))).map .d)) :: (19, .cells 1 [.yld 18]) :: E1 Tryz.f11 Tryz.f46 rgL d n (.fs 1 (vS way)) v0 (tm0 (out1.map encN)), 22⟩) ?_ ?_
  ·exact Wk.vwL (by (repeat (first | exact trivial | refine And.intro (Vw.eq rfl) ?_ | refine And.intro (Vw.ts' hwo2) ?_))) (by (repeat (first | exact trivial | refine And.intro (VwO.same _) ?_))) rfl
  (repeat' ((conv=>whnf);first|with_reducible refine gA ?_|((with_reducible refine callE_id ?_); first | refine CallE.con ⟨_, hf, ?_⟩ | refine CallE.con ⟨_, he, ?_⟩ | refine CallE.con ⟨_, hi, ?_⟩ | refine CallE.con ⟨_, hj, ?_⟩ | refine CallE.con ⟨_, hda, ?_⟩ | refine CallE.inl ?_) | refine CallP.mk ⟨_, hj, ?_⟩ | refine CallP.mk ⟨_, hda, ?_⟩|(with_reducible first|refine gB ?_|refine gZ (fun x hx hu=>?_)|refine gY (fun x hx=>?_)|refine gE ?_|refine Both.mk ?_ ?_|refine gS (fun h=>?_) (fun h=>?_)|refine Spl.nt ?_|refine Spl.mk (fun h=>?_) (fun h=>?_))))
  refine YieldI.post ?_
  refine YieldI.intro ti_ok (by with_unfolding_all exact rfl) (by with_unfolding_all exact rfl) (by with_unfolding_all exact rfl) ?_
  (repeat' ((conv=>whnf);first|with_reducible refine gA ?_|with_reducible refine YieldI.intro ti_ok (by with_unfolding_all exact rfl) (by with_unfolding_all exact rfl) (by with_unfolding_all exact rfl) ?_|(with_reducible first|refine gB ?_|refine gZ (fun x hx hu=>?_)|refine gY (fun x hx=>?_)|refine gE ?_|refine Both.mk ?_ ?_|refine gS (fun h=>?_) (fun h=>?_)|refine Spl.nt ?_|refine Spl.mk (fun h=>?_) (fun h=>?_))))
  ·refine ⟨⟨[(57, .d (.bl false))], E1 Tryz.f11 Tryz.f46 rgD d n (.fs 1 (vS way)) v0 (tm1 (out1.map encN)), 20⟩, Wk.enF (by (repeat (first | exact trivial | refine And.intro rfl ?_))) (by (repeat (first | exact trivial | refine And.intro (obw_eq rfl (by with_unfolding_all exact rfl)) ?_ | refine And.intro (obw_fr (by with_unfolding_all exact rfl) (by (repeat (first | exact trivial | refine And.intro (by with_unfolding_all exact rfl) ?_)))) ?_))) rfl, ?_⟩
   (repeat' ((conv=>whnf);first|with_reducible refine gA ?_|(with_reducible first|refine gB ?_|refine gZ (fun x hx hu=>?_)|refine gY (fun x hx=>?_)|refine gE ?_|refine Both.mk ?_ ?_|refine gS (fun h=>?_) (fun h=>?_)|refine Spl.nt ?_|refine Spl.mk (fun h=>?_) (fun h=>?_))))
   exact ⟨⟨[], E1 Tryz.f11 Tryz.f46 rgD d n (.fs 1 (vS way)) v0 (tm1 (out1.map encN)), 19⟩, Wk.enF trivial (by (repeat (first | exact trivial | refine And.intro (obw_eq rfl (by with_unfolding_all exact rfl)) ?_ | refine And.intro (obw_fr (by with_unfolding_all exact rfl) (by (repeat (first | exact trivial | refine And.intro (by with_unfolding_all exact rfl) ?_)))) ?_))) rfl, hE (by omega)⟩
  ·have hlo : (out1 ++ [(nodV (rdS d) way n s)]).length ≤ 64 := by rw [List.length_append, List.length_singleton]; omega
   refine ⟨⟨(57, .d (.bl true)) :: (9, .d (.it .i64 (mOf (rdS d) n s))) :: (10, .ptr 20 0) :: (11, .d (.fs 1 (vS (way ++ [s])))) :: slI 14 15 16 19 (nms (rdS d) n) k, (21, .tag 20 46) :: (20, .cells 6 ((encI (inoAt (rdS d) (mOf (rdS d) n s))).map .d)) :: (19, .cells 1 [.yld 18]) :: E1 Tryz.f11 Tryz.f46 rgL d n (.fs 1 (vS way)) v0 (tm0 (out1.map encN ++ [encN (nodV (rdS d) way n s)])), 22⟩, Wk.enF (by (repeat (first | exact trivial | refine And.intro rfl ?_))) (by (repeat (first | exact trivial | refine And.intro (obw_eq rfl (by with_unfolding_all exact rfl)) ?_ | refine And.intro (obw_fr (by with_unfolding_all exact rfl) (by (repeat (first | exact trivial | refine And.intro (by with_unfolding_all exact rfl) ?_)))) ?_))) rfl, ?_⟩
   by_cases hk2 : (inoAt (rdS d) (mOf (rdS d) n s)).k = 2
   ·(repeat' ((conv=>whnf);first|with_reducible refine gA ?_|((with_reducible refine callE_id ?_); refine CallE.inl ?_) | with_reducible refine CallI.inl ti_ok i25 rfl ?_|(with_reducible first|refine gB ?_|refine gZ (fun x hx hu=>?_)|refine gY (fun x hx=>?_)|refine gE ?_|refine Both.mk ?_ ?_|refine gS (fun h=>?_) (fun h=>?_)|refine Spl.nt ?_|refine Spl.mk (fun h=>?_) (fun h=>?_))))
    conv => whnf
    refine RangeS.wk (τ := ⟨slI 14 15 16 19 (nms (rdS d) n) k ++ [(65, clo 23 24 25)], c3 d (mOf (rdS d) n s) (.fs 1 (vS (way ++ [s]))) 23 24 25 ++ (19, .cells 1 [.yld 18]) :: E1 Tryz.f11 Tryz.f46 rgL d n (.fs 1 (vS way)) v0 (tm0 (out1.map encN ++ [encN (nodV (rdS d) way n s)])), 26⟩) (Wk.enF (by (repeat (first | exact trivial | refine And.intro rfl ?_))) (by (repeat (first | exact trivial | refine And.intro (obw_eq rfl (by with_unfolding_all exact rfl)) ?_ | refine And.intro (obw_fr (by with_unfolding_all exact rfl) (by (repeat (first | exact trivial | refine And.intro (by with_unfolding_all exact rfl) ?_)))) ?_))) rfl) ?_
    refine RangeS.introW ti_ok i46 rfl rfl (lvl2 d hd v0 ⟨nms (rdS d) n, k, n, .fs 1 (vS way)⟩ (mOf (rdS d) n s) (way ++ [s]) hw2 hwn2 (out1 ++ [(nodV (rdS d) way n s)]) hlo (out1.map encN ++ [encN (nodV (rdS d) way n s)]) hmap _ ?_ ?_ ?_)
    ·intro h2
     (repeat' ((conv=>whnf);first|with_reducible refine gA ?_|(with_reducible first|refine gB ?_|refine gZ (fun x hx hu=>?_)|refine gY (fun x hx=>?_)|refine gE ?_|refine Both.mk ?_ ?_|refine gS (fun h=>?_) (fun h=>?_)|refine Spl.nt ?_|refine Spl.mk (fun h=>?_) (fun h=>?_))))
     exact ⟨(k + 1, (out1 ++ [(nodV (rdS d) way n s)]) ++ subV (rdS d) 2 (mOf (rdS d) n s) (way ++ [s])), ⟨hkl, h2, hT2 hk2⟩, by dsimp only; omega, Wk.enF (And.intro rfl (And.intro rfl (And.intro rfl (And.intro rfl (And.intro rfl (And.intro rfl (And.intro (it_eq (by first | omega | (dsimp only; omega))) trivial))))))) (by (repeat (first | exact trivial | refine And.intro (obw_eq rfl (by with_unfolding_all exact rfl)) ?_ | refine And.intro (obw_fr (by with_unfolding_all exact rfl) (by (repeat (first | exact trivial | refine And.intro (by with_unfolding_all exact rfl) ?_)))) ?_))) rfl⟩
    ·intro h2
     (repeat' ((conv=>whnf);first|with_reducible refine gA ?_|(with_reducible first|refine gB ?_|refine gZ (fun x hx hu=>?_)|refine gY (fun x hx=>?_)|refine gE ?_|refine Both.mk ?_ ?_|refine gS (fun h=>?_) (fun h=>?_)|refine Spl.nt ?_|refine Spl.mk (fun h=>?_) (fun h=>?_))))
     exact ⟨(k + 1, (out1 ++ [(nodV (rdS d) way n s)]) ++ subV (rdS d) 2 (mOf (rdS d) n s) (way ++ [s])), ⟨hkl, h2, hT2 hk2⟩, by dsimp only; omega, Wk.enF (And.intro rfl (And.intro rfl (And.intro rfl (And.intro rfl (And.intro rfl (And.intro rfl (And.intro (it_eq (by first | omega | (dsimp only; omega))) trivial))))))) (by (repeat (first | exact trivial | refine And.intro (obw_eq rfl (by with_unfolding_all exact rfl)) ?_ | refine And.intro (obw_fr (by with_unfolding_all exact rfl) (by (repeat (first | exact trivial | refine And.intro (by with_unfolding_all exact rfl) ?_)))) ?_))) rfl⟩
    ·intro h2
     (repeat' ((conv=>whnf);first|with_reducible refine gA ?_|(with_reducible first|refine gB ?_|refine gZ (fun x hx hu=>?_)|refine gY (fun x hx=>?_)|refine gE ?_|refine Both.mk ?_ ?_|refine gS (fun h=>?_) (fun h=>?_)|refine Spl.nt ?_|refine Spl.mk (fun h=>?_) (fun h=>?_))))
     exact ⟨⟨[], E1 Tryz.f11 Tryz.f46 rgD d n (.fs 1 (vS way)) v0 (tm1 ((((out1 ++ [(nodV (rdS d) way n s)]) ++ subV (rdS d) 2 (mOf (rdS d) n s) (way ++ [s])).take 64).map encN)), 19⟩, Wk.enF trivial (by (repeat (first | exact trivial | refine And.intro (obw_eq rfl (by with_unfolding_all exact rfl)) ?_ | refine And.intro (obw_fr (by with_unfolding_all exact rfl) (by (repeat (first | exact trivial | refine And.intro (by with_unfolding_all exact rfl) ?_)))) ?_))) rfl, hE2 hk2 h2⟩
   ·(repeat' ((conv=>whnf);first|with_reducible refine gA ?_|(with_reducible first|refine gB ?_|refine gZ (fun x hx hu=>?_)|refine gY (fun x hx=>?_)|refine gE ?_|refine Both.mk ?_ ?_|refine gS (fun h=>?_) (fun h=>?_)|refine Spl.nt ?_|refine Spl.mk (fun h=>?_) (fun h=>?_))))
    exact ⟨(k + 1, out1 ++ [(nodV (rdS d) way n s)]), ⟨hkl, hlo, hT3 hk2⟩, hmu, wk_tr (congrArg (fun O => (⟨slI 14 15 16 19 (nms (rdS d) n) (k + 1), (19, .cells 1 [.yld 18]) :: E1 Tryz.f11 Tryz.f46 rgL d n (.fs 1 (vS way)) v0 (tm0 O), 20⟩ : S)) hmap) (Wk.enF (And.intro rfl (And.intro rfl (And.intro rfl (And.intro rfl (And.intro rfl (And.intro rfl (And.intro (it_eq (by first | omega | (dsimp only; omega))) trivial))))))) (by (repeat (first | exact trivial | refine And.intro (obw_eq rfl (by with_unfolding_all exact rfl)) ?_ | refine And.intro (obw_fr (by with_unfolding_all exact rfl) (by (repeat (first | exact trivial | refine And.intro (by with_unfolding_all exact rfl) ?_)))) ?_))) rfl)⟩
 ·have hN : G .normal ⟨[], E1 Tryz.f11 Tryz.f46 rgL d n (.fs 1 (vS way)) v0 (tm0 (out1.map encN)), 19⟩ := by
   have e : out1 = out ++ subV (rdS d) 3 n way := by
    rw [← hT, List.drop_of_length_le hkl]; exact (List.append_nil _).symm
   have := hA2 (by rw [← e]; exact ho1)
   rw [← e] at this
   exact this
  (repeat' ((conv=>whnf);first|with_reducible refine gA ?_|(with_reducible first|refine gB ?_|refine gZ (fun x hx hu=>?_)|refine gY (fun x hx=>?_)|refine gE ?_|refine Both.mk ?_ ?_|refine gS (fun h=>?_) (fun h=>?_)|refine Spl.nt ?_|refine Spl.mk (fun h=>?_) (fun h=>?_))))
  exact ⟨⟨[], E1 Tryz.f11 Tryz.f46 rgL d n (.fs 1 (vS way)) v0 (tm0 (out1.map encN)), 19⟩, Wk.enF trivial (by (repeat (first | exact trivial | refine And.intro (obw_eq rfl (by with_unfolding_all exact rfl)) ?_ | refine And.intro (obw_fr (by with_unfolding_all exact rfl) (by (repeat (first | exact trivial | refine And.intro (by with_unfolding_all exact rfl) ?_)))) ?_))) rfl, hN⟩
end Go.Proofs.YtmfokpfddponjaaGreatDoor
namespace Go.Proofs.YtmfokpfddponjaaGreatDoor
open Go.Sy
set_option maxHeartbeats 16000000 in
theorem lvl0 (d : Option Dk) (hd : DkOK d) (n : Int) (way : List (List UInt8)) (hw : way.length = 0) (hwn : ∀ s ∈ way, s.length ≤ 8) (out : List Nod) (ho : out.length ≤ 64) (O : List (List D)) (hO : O = out.map encN) (G : Exit → S → Prop)
  (hA1 : (out ++ subV (rdS d) 4 n way).length ≤ 64 → G .ret ⟨[], E0 Tryz.f11 Tryz.f46 rgL d n (.fs 1 (vS way))  (tm0 ((out ++ subV (rdS d) 4 n way).map encN)), 10⟩) (hA2 : (out ++ subV (rdS d) 4 n way).length ≤ 64 → G .normal ⟨[], E0 Tryz.f11 Tryz.f46 rgL d n (.fs 1 (vS way))  (tm0 ((out ++ subV (rdS d) 4 n way).map encN)), 10⟩) (hB : ¬ (out ++ subV (rdS d) 4 n way).length ≤ 64 → G .ret ⟨[], E0 Tryz.f11 Tryz.f46 rgD d n (.fs 1 (vS way))  (tm1 (((out ++ subV (rdS d) 4 n way).take 64).map encN)), 10⟩) :
  vc Tryz.prog ti 72 (bd Tryz.f46) (fun e υ => ∃ τ, Wk 72 υ τ ∧ G e τ) ⟨idx 0 [.yld 9, .ptr 6 0, .ptr 4 0, .ptr 5 0], E0 Tryz.f11 Tryz.f46 rgL d n (.fs 1 (vS way))  (tm0 O), 10⟩ := by
 have hwl : (vS way).length = way.length := List.length_map ..
 have hnl : (vS (nms (rdS d) n)).length = (nms (rdS d) n).length := List.length_map ..
 have hls := list_ok d hd n
 have hkb := nms_len (rdS d) n
 subst hO
 (repeat' ((conv=>whnf);first|with_reducible refine gA ?_|((with_reducible refine callE_id ?_); refine CallE.con ⟨_, hls, ?_⟩)|(with_reducible first|refine gB ?_|refine gZ (fun x hx hu=>?_)|refine gY (fun x hx=>?_)|refine gE ?_|refine Both.mk ?_ ?_|refine gS (fun h=>?_) (fun h=>?_)|refine Spl.nt ?_|refine Spl.mk (fun h=>?_) (fun h=>?_))))
 conv => whnf
 refine LoopS.wk (τ := ⟨slI 4 5 6 10 (nms (rdS d) n) 0, (10, .cells 1 [.yld 9]) :: E0 Tryz.f11 Tryz.f46 rgL d n (.fs 1 (vS way))  (tm0 (out.map encN)), 11⟩) (Wk.enF (by (repeat (first | exact trivial | refine And.intro rfl ?_))) (by (repeat (first | exact trivial | refine And.intro (obw_eq rfl (by with_unfolding_all exact rfl)) ?_ | refine And.intro (obw_fr (by with_unfolding_all exact rfl) (by (repeat (first | exact trivial | refine And.intro (by with_unfolding_all exact rfl) ?_)))) ?_))) rfl) ?_
 refine loop_ruleW ti_ok (fun x : Nat × List Nod => x.1 ≤ (nms (rdS d) n).length ∧ x.2.length ≤ 64 ∧ x.2 ++ subL (rdS d) 3 n way ((nms (rdS d) n).drop x.1) = out ++ subV (rdS d) 4 n way) (fun x : Nat × List Nod => ⟨slI 4 5 6 10 (nms (rdS d) n) x.1, (10, .cells 1 [.yld 9]) :: E0 Tryz.f11 Tryz.f46 rgL d n (.fs 1 (vS way))  (tm0 (x.2.map encN)), 11⟩) (fun x => (nms (rdS d) n).length - x.1) (0, out) ⟨Nat.zero_le _, ho, rfl⟩ (Wk.en ⟨by (repeat (first | exact trivial | refine And.intro rfl ?_)), by (repeat (first | exact trivial | refine And.intro rfl ?_)), rfl⟩) ?_
 intro ⟨k, out1⟩ ⟨k1, ho1, hT⟩
 dsimp only at k1 ho1 hT
 have hol : (out1.map encN).length = out1.length := List.length_map ..
 rcases Nat.lt_or_ge k (nms (rdS d) n).length with hkl | hkl
 ·obtain ⟨s, hs⟩ := lt_get hkl
  have hx : (vS (nms (rdS d) n))[k]? = some [.st s] := by unfold vS; rw [List.getElem?_map, hs]; rfl
  have hsn := name_len (nms_name (rdS d) n s (List.mem_of_getElem? hs))
  have hwn2 : ∀ t ∈ way ++ [s], t.length ≤ 8 := fun t ht => by
   rcases List.mem_append.1 ht with ht | ht
   ·exact hwn t ht
   ·rw [List.mem_singleton.1 ht]; exact hsn
  have hw2 : (way ++ [s]).length = 1 := by rw [List.length_append, hw]; rfl
  have hf := find_ok d hd n s
  rw [fndV_eq] at hf
  have he := entry_ok d hd (kOf (rdS d) n s)
  have hi := inode_ok d hd (mOf (rdS d) n s)
  have hj := join_way (way ++ [s]) hwn2 (by omega) (by simp)
  have hda := data_ok d hd (inoAt (rdS d) (mOf (rdS d) n s)) (inoAt_RI _ _)
  rw [drop_at14 hs, subL_cons] at hT
  have hwo : vS way ++ [[.st s]] = vS (way ++ [s]) := by unfold vS; rw [List.map_append]; rfl
  have htk : (List.take (((vS way).length : Nat) : Int).toNat (vS way)).length ≤ 4 := by rw [List.length_take]; omega
  have hvl : (vS (way ++ [s])).length = 1 := by unfold vS; rw [List.length_map]; exact hw2
  have hwo2 : (vS way).take (((vS way).length : Nat) : Int).toNat ++ [[.st s]] = vS (way ++ [s]) := by rw [List.take_of_length_le (by omega)]; exact hwo
  have hmap : (out1.map encN ++ [encN (nodV (rdS d) way n s)]) = (out1 ++ [(nodV (rdS d) way n s)]).map encN := by rw [List.map_append]; rfl
  have hE : out1.length = 64 → G .ret ⟨[], E0 Tryz.f11 Tryz.f46 rgD d n (.fs 1 (vS way))  (tm1 (out1.map encN)), 10⟩ := fun h => by
   have := hB (by rw [← hT, List.length_append, List.length_cons]; omega)
   rw [← hT, List.take_left' h] at this
   exact this
  have hT2 : (inoAt (rdS d) (mOf (rdS d) n s)).k = 2 → ((out1 ++ [(nodV (rdS d) way n s)]) ++ subV (rdS d) 3 (mOf (rdS d) n s) (way ++ [s])) ++ subL (rdS d) 3 n way ((nms (rdS d) n).drop (k + 1)) = out ++ subV (rdS d) 4 n way := fun h => by
   rw [← hT, if_pos h]; simp only [List.append_assoc, List.cons_append, List.nil_append]
  have hT3 : ¬ (inoAt (rdS d) (mOf (rdS d) n s)).k = 2 → (out1 ++ [(nodV (rdS d) way n s)]) ++ subL (rdS d) 3 n way ((nms (rdS d) n).drop (k + 1)) = out ++ subV (rdS d) 4 n way := fun h => by
   rw [← hT, if_neg h]; simp only [List.append_assoc, List.cons_append, List.nil_append]
  have hE2 : (inoAt (rdS d) (mOf (rdS d) n s)).k = 2 → ¬ ((out1 ++ [(nodV (rdS d) way n s)]) ++ subV (rdS d) 3 (mOf (rdS d) n s) (way ++ [s])).length ≤ 64 → G .ret ⟨[], E0 Tryz.f11 Tryz.f46 rgD d n (.fs 1 (vS way))  (tm1 ((((out1 ++ [(nodV (rdS d) way n s)]) ++ subV (rdS d) 3 (mOf (rdS d) n s) (way ++ [s])).take 64).map encN)), 10⟩ := fun h h2 => by
   have := hB (by rw [← hT2 h, List.length_append]; omega)
   rw [← hT2 h, List.take_append_of_le_length (by omega)] at this
   exact this
  have hmu : (nms (rdS d) n).length - (k + 1) < (nms (rdS d) n).length - k := by omega
  clear hT hB
  (repeat' ((conv=>whnf);first|with_reducible refine gA ?_|((with_reducible refine callE_id ?_); first | refine CallE.con ⟨_, hf, ?_⟩ | refine CallE.con ⟨_, he, ?_⟩ | refine CallE.con ⟨_, hi, ?_⟩ | refine CallE.con ⟨_, hj, ?_⟩ | refine CallE.con ⟨_, hda, ?_⟩ | refine CallE.inl ?_) | refine CallP.mk ⟨_, hj, ?_⟩ | refine CallP.mk ⟨_, hda, ?_⟩|(with_reducible first|refine gB0 ?_|refine gZ (fun x hx hu=>?_)|refine gY (fun x hx=>?_)|refine gE ?_|refine Both.mk ?_ ?_|refine gS (fun h=>?_) (fun h=>?_)|refine Spl.nt ?_|refine Spl.mk (fun h=>?_) (fun h=>?_))))
  refine DrawS.wk (τ := ⟨(9, .d (.it .i64 (mOf (rdS d) n s))) :: (10, .ptr 11 0) :: (11, .d (.fs 1 (vS (way ++ [s])))) :: slI 4 5 6 10 (nms (rdS d) n) k, (12, .tag 11 46) :: (11, .cells 6 ((encI (inoAt (rdS d) (mOf (rdS d) n s))).map .d)) :: (10, .cells 1 [.yld 9]) :: E0 Tryz.f11 Tryz.f46 rgL d n (.fs 1 (vS way))  (tm0 (out1.map encN)), 13⟩) ?_ ?_
  ·exact Wk.vwL (by (repeat (first | exact trivial | refine And.intro (Vw.eq rfl) ?_ | refine And.intro (Vw.ts' hwo2) ?_))) (by (repeat (first | exact trivial | refine And.intro (VwO.same _) ?_))) rfl
  (repeat' ((conv=>whnf);first|with_reducible refine gA ?_|((with_reducible refine callE_id ?_); first | refine CallE.con ⟨_, hf, ?_⟩ | refine CallE.con ⟨_, he, ?_⟩ | refine CallE.con ⟨_, hi, ?_⟩ | refine CallE.con ⟨_, hj, ?_⟩ | refine CallE.con ⟨_, hda, ?_⟩ | refine CallE.inl ?_) | refine CallP.mk ⟨_, hj, ?_⟩ | refine CallP.mk ⟨_, hda, ?_⟩|(with_reducible first|refine gB ?_|refine gZ (fun x hx hu=>?_)|refine gY (fun x hx=>?_)|refine gE ?_|refine Both.mk ?_ ?_|refine gS (fun h=>?_) (fun h=>?_)|refine Spl.nt ?_|refine Spl.mk (fun h=>?_) (fun h=>?_))))
  refine YieldI.post ?_
  refine YieldI.intro ti_ok (by with_unfolding_all exact rfl) (by with_unfolding_all exact rfl) (by with_unfolding_all exact rfl) ?_
  (repeat' ((conv=>whnf);first|with_reducible refine gA ?_|with_reducible refine YieldI.intro ti_ok (by with_unfolding_all exact rfl) (by with_unfolding_all exact rfl) (by with_unfolding_all exact rfl) ?_|(with_reducible first|refine gB ?_|refine gZ (fun x hx hu=>?_)|refine gY (fun x hx=>?_)|refine gE ?_|refine Both.mk ?_ ?_|refine gS (fun h=>?_) (fun h=>?_)|refine Spl.nt ?_|refine Spl.mk (fun h=>?_) (fun h=>?_))))
  ·refine ⟨⟨[(57, .d (.bl false))], E0 Tryz.f11 Tryz.f46 rgD d n (.fs 1 (vS way))  (tm1 (out1.map encN)), 11⟩, Wk.enF (by (repeat (first | exact trivial | refine And.intro rfl ?_))) (by (repeat (first | exact trivial | refine And.intro (obw_eq rfl (by with_unfolding_all exact rfl)) ?_ | refine And.intro (obw_fr (by with_unfolding_all exact rfl) (by (repeat (first | exact trivial | refine And.intro (by with_unfolding_all exact rfl) ?_)))) ?_))) rfl, ?_⟩
   (repeat' ((conv=>whnf);first|with_reducible refine gA ?_|(with_reducible first|refine gB ?_|refine gZ (fun x hx hu=>?_)|refine gY (fun x hx=>?_)|refine gE ?_|refine Both.mk ?_ ?_|refine gS (fun h=>?_) (fun h=>?_)|refine Spl.nt ?_|refine Spl.mk (fun h=>?_) (fun h=>?_))))
   exact ⟨⟨[], E0 Tryz.f11 Tryz.f46 rgD d n (.fs 1 (vS way))  (tm1 (out1.map encN)), 10⟩, Wk.enF trivial (by (repeat (first | exact trivial | refine And.intro (obw_eq rfl (by with_unfolding_all exact rfl)) ?_ | refine And.intro (obw_fr (by with_unfolding_all exact rfl) (by (repeat (first | exact trivial | refine And.intro (by with_unfolding_all exact rfl) ?_)))) ?_))) rfl, hE (by omega)⟩
  ·have hlo : (out1 ++ [(nodV (rdS d) way n s)]).length ≤ 64 := by rw [List.length_append, List.length_singleton]; omega
   refine ⟨⟨(57, .d (.bl true)) :: (9, .d (.it .i64 (mOf (rdS d) n s))) :: (10, .ptr 11 0) :: (11, .d (.fs 1 (vS (way ++ [s])))) :: slI 4 5 6 10 (nms (rdS d) n) k, (12, .tag 11 46) :: (11, .cells 6 ((encI (inoAt (rdS d) (mOf (rdS d) n s))).map .d)) :: (10, .cells 1 [.yld 9]) :: E0 Tryz.f11 Tryz.f46 rgL d n (.fs 1 (vS way))  (tm0 (out1.map encN ++ [encN (nodV (rdS d) way n s)])), 13⟩, Wk.enF (by (repeat (first | exact trivial | refine And.intro rfl ?_))) (by (repeat (first | exact trivial | refine And.intro (obw_eq rfl (by with_unfolding_all exact rfl)) ?_ | refine And.intro (obw_fr (by with_unfolding_all exact rfl) (by (repeat (first | exact trivial | refine And.intro (by with_unfolding_all exact rfl) ?_)))) ?_))) rfl, ?_⟩
   by_cases hk2 : (inoAt (rdS d) (mOf (rdS d) n s)).k = 2
   ·(repeat' ((conv=>whnf);first|with_reducible refine gA ?_|((with_reducible refine callE_id ?_); refine CallE.inl ?_) | with_reducible refine CallI.inl ti_ok i25 rfl ?_|(with_reducible first|refine gB ?_|refine gZ (fun x hx hu=>?_)|refine gY (fun x hx=>?_)|refine gE ?_|refine Both.mk ?_ ?_|refine gS (fun h=>?_) (fun h=>?_)|refine Spl.nt ?_|refine Spl.mk (fun h=>?_) (fun h=>?_))))
    conv => whnf
    refine RangeS.wk (τ := ⟨slI 4 5 6 10 (nms (rdS d) n) k ++ [(65, clo 14 15 16)], c3 d (mOf (rdS d) n s) (.fs 1 (vS (way ++ [s]))) 14 15 16 ++ (10, .cells 1 [.yld 9]) :: E0 Tryz.f11 Tryz.f46 rgL d n (.fs 1 (vS way))  (tm0 (out1.map encN ++ [encN (nodV (rdS d) way n s)])), 17⟩) (Wk.enF (by (repeat (first | exact trivial | refine And.intro rfl ?_))) (by (repeat (first | exact trivial | refine And.intro (obw_eq rfl (by with_unfolding_all exact rfl)) ?_ | refine And.intro (obw_fr (by with_unfolding_all exact rfl) (by (repeat (first | exact trivial | refine And.intro (by with_unfolding_all exact rfl) ?_)))) ?_))) rfl) ?_
    refine RangeS.introW ti_ok i46 rfl rfl (lvl1 d hd  ⟨nms (rdS d) n, k, n, .fs 1 (vS way)⟩ (mOf (rdS d) n s) (way ++ [s]) hw2 hwn2 (out1 ++ [(nodV (rdS d) way n s)]) hlo (out1.map encN ++ [encN (nodV (rdS d) way n s)]) hmap _ ?_ ?_ ?_)
    ·intro h2
     (repeat' ((conv=>whnf);first|with_reducible refine gA ?_|(with_reducible first|refine gB ?_|refine gZ (fun x hx hu=>?_)|refine gY (fun x hx=>?_)|refine gE ?_|refine Both.mk ?_ ?_|refine gS (fun h=>?_) (fun h=>?_)|refine Spl.nt ?_|refine Spl.mk (fun h=>?_) (fun h=>?_))))
     exact ⟨(k + 1, (out1 ++ [(nodV (rdS d) way n s)]) ++ subV (rdS d) 3 (mOf (rdS d) n s) (way ++ [s])), ⟨hkl, h2, hT2 hk2⟩, by dsimp only; omega, Wk.enF (And.intro rfl (And.intro rfl (And.intro rfl (And.intro rfl (And.intro rfl (And.intro rfl (And.intro (it_eq (by first | omega | (dsimp only; omega))) trivial))))))) (by (repeat (first | exact trivial | refine And.intro (obw_eq rfl (by with_unfolding_all exact rfl)) ?_ | refine And.intro (obw_fr (by with_unfolding_all exact rfl) (by (repeat (first | exact trivial | refine And.intro (by with_unfolding_all exact rfl) ?_)))) ?_))) rfl⟩
    ·intro h2
     (repeat' ((conv=>whnf);first|with_reducible refine gA ?_|(with_reducible first|refine gB ?_|refine gZ (fun x hx hu=>?_)|refine gY (fun x hx=>?_)|refine gE ?_|refine Both.mk ?_ ?_|refine gS (fun h=>?_) (fun h=>?_)|refine Spl.nt ?_|refine Spl.mk (fun h=>?_) (fun h=>?_))))
     exact ⟨(k + 1, (out1 ++ [(nodV (rdS d) way n s)]) ++ subV (rdS d) 3 (mOf (rdS d) n s) (way ++ [s])), ⟨hkl, h2, hT2 hk2⟩, by dsimp only; omega, Wk.enF (And.intro rfl (And.intro rfl (And.intro rfl (And.intro rfl (And.intro rfl (And.intro rfl (And.intro (it_eq (by first | omega | (dsimp only; omega))) trivial))))))) (by (repeat (first | exact trivial | refine And.intro (obw_eq rfl (by with_unfolding_all exact rfl)) ?_ | refine And.intro (obw_fr (by with_unfolding_all exact rfl) (by (repeat (first | exact trivial | refine And.intro (by with_unfolding_all exact rfl) ?_)))) ?_))) rfl⟩
    ·intro h2
     (repeat' ((conv=>whnf);first|with_reducible refine gA ?_|(with_reducible first|refine gB ?_|refine gZ (fun x hx hu=>?_)|refine gY (fun x hx=>?_)|refine gE ?_|refine Both.mk ?_ ?_|refine gS (fun h=>?_) (fun h=>?_)|refine Spl.nt ?_|refine Spl.mk (fun h=>?_) (fun h=>?_))))
     exact ⟨⟨[], E0 Tryz.f11 Tryz.f46 rgD d n (.fs 1 (vS way))  (tm1 ((((out1 ++ [(nodV (rdS d) way n s)]) ++ subV (rdS d) 3 (mOf (rdS d) n s) (way ++ [s])).take 64).map encN)), 10⟩, Wk.enF trivial (by (repeat (first | exact trivial | refine And.intro (obw_eq rfl (by with_unfolding_all exact rfl)) ?_ | refine And.intro (obw_fr (by with_unfolding_all exact rfl) (by (repeat (first | exact trivial | refine And.intro (by with_unfolding_all exact rfl) ?_)))) ?_))) rfl, hE2 hk2 h2⟩
   ·(repeat' ((conv=>whnf);first|with_reducible refine gA ?_|(with_reducible first|refine gB ?_|refine gZ (fun x hx hu=>?_)|refine gY (fun x hx=>?_)|refine gE ?_|refine Both.mk ?_ ?_|refine gS (fun h=>?_) (fun h=>?_)|refine Spl.nt ?_|refine Spl.mk (fun h=>?_) (fun h=>?_))))
    exact ⟨(k + 1, out1 ++ [(nodV (rdS d) way n s)]), ⟨hkl, hlo, hT3 hk2⟩, hmu, wk_tr (congrArg (fun O => (⟨slI 4 5 6 10 (nms (rdS d) n) (k + 1), (10, .cells 1 [.yld 9]) :: E0 Tryz.f11 Tryz.f46 rgL d n (.fs 1 (vS way))  (tm0 O), 11⟩ : S)) hmap) (Wk.enF (And.intro rfl (And.intro rfl (And.intro rfl (And.intro rfl (And.intro rfl (And.intro rfl (And.intro (it_eq (by first | omega | (dsimp only; omega))) trivial))))))) (by (repeat (first | exact trivial | refine And.intro (obw_eq rfl (by with_unfolding_all exact rfl)) ?_ | refine And.intro (obw_fr (by with_unfolding_all exact rfl) (by (repeat (first | exact trivial | refine And.intro (by with_unfolding_all exact rfl) ?_)))) ?_))) rfl)⟩
 ·have hN : G .normal ⟨[], E0 Tryz.f11 Tryz.f46 rgL d n (.fs 1 (vS way))  (tm0 (out1.map encN)), 10⟩ := by
   have e : out1 = out ++ subV (rdS d) 4 n way := by
    rw [← hT, List.drop_of_length_le hkl]; exact (List.append_nil _).symm
   have := hA2 (by rw [← e]; exact ho1)
   rw [← e] at this
   exact this
  (repeat' ((conv=>whnf);first|with_reducible refine gA ?_|(with_reducible first|refine gB ?_|refine gZ (fun x hx hu=>?_)|refine gY (fun x hx=>?_)|refine gE ?_|refine Both.mk ?_ ?_|refine gS (fun h=>?_) (fun h=>?_)|refine Spl.nt ?_|refine Spl.mk (fun h=>?_) (fun h=>?_))))
  exact ⟨⟨[], E0 Tryz.f11 Tryz.f46 rgL d n (.fs 1 (vS way))  (tm0 (out1.map encN)), 10⟩, Wk.enF trivial (by (repeat (first | exact trivial | refine And.intro (obw_eq rfl (by with_unfolding_all exact rfl)) ?_ | refine And.intro (obw_fr (by with_unfolding_all exact rfl) (by (repeat (first | exact trivial | refine And.intro (by with_unfolding_all exact rfl) ?_)))) ?_))) rfl, hN⟩
end Go.Proofs.YtmfokpfddponjaaGreatDoor
namespace Go.Proofs.YtmfokpfddponjaaGreatDoor
open Go.Sy
theorem Wk.nilD {N : Nat} {σ : S} (n a b : Nat) (hn : Go.Sy.look n σ.mem = some (.cells 1 [.d (.fs a [])])) : Wk N σ ⟨σ.sl, (n, .cells 1 [.d (.fs b [])]) :: σ.mem, σ.nx⟩ := by
 refine ⟨fun κ g w0 w hst => ⟨g, ?_⟩⟩
 have on : ∀ k, On g ((n, .cells 1 [.d (.fs b [])]) :: σ.mem) k → On g σ.mem k := fun k h => by
  unfold On at h ⊢
  rw [look_cons] at h
  by_cases hk : k = n
  ·subst hk; rw [hn]; trivial
  ·rw [if_neg hk] at h; exact h
 refine ⟨hst.size, hst.defers, hst.sl, ⟨hst.inv.frz, fun k ob hk => ?_, fun k m hkm h h' => hst.inv.inj k m hkm (on k h) (on m h'), hst.inv.size, hst.inv.pres, fun k h => hst.inv.own k (on k h), hst.inv.f0, hst.inv.fnew, hst.inv.os, hst.inv.tape, hst.inv.output, hst.inv.dfr⟩, ?_⟩
 ·rw [look_cons] at hk
  by_cases hkn : k = n
  ·subst hkn
   rw [if_pos rfl] at hk
   obtain rfl := Option.some.inj hk
   obtain ⟨arr, T, e1, e2, e3, e4, e5, e6⟩ := hst.inv.obs k _ hn
   refine ⟨arr, T, e1, e2, rfl, fun j hj => ?_, fun j hj => ?_, e6⟩
   ·obtain rfl : j = 0 := by simp at hj; omega
    rfl
   ·obtain rfl : j = 0 := by simp at hj; omega
    have h := e5 0 (by simp)
    simp only [List.getElem_cons_zero] at h ⊢
    generalize arr.getD 0 undef = q at h
    cases h with | d _ _ hd => ?_
    cases hd with
    | fs0 => exact .d _ _ (.fs0 _ _ _)
    | fs _ _ _ _ _ _ _ hl =>
     obtain rfl : 0 = _ := hl
     exact .d _ _ (.fs0 _ _ _)
  ·rw [if_neg hkn] at hk; exact hst.inv.obs k ob hk
 ·have := S.ok_iff.1 hst.ok
  refine S.ok_iff.2 ⟨this.1, fun p hp => ?_⟩
  rcases List.mem_cons.1 hp with rfl | hp
  ·exact ⟨(S.ok_mem hst.ok hn).1, rfl⟩
  ·exact this.2 p hp
theorem FnC.res {P : Program} {f : Nat} {args : List AV} {r r' : AV} (h : FnC P f args r) (hp : r'.isP = true) (hc : ∀ g v, AVR g r v → AVR g r' v) : FnC P f args r' := ⟨hp, fun g w vs a b c => by
 rcases h.run g w vs a b c with ⟨h1, h2⟩ | ⟨v, w', h1, v', g', h2, h3, h4⟩
 ·exact .inl ⟨h1, h2.mono fun e w' ⟨v, g', q1, q2, q3⟩ => ⟨v, g', q1, hc _ _ q2, q3⟩⟩
 ·exact .inr ⟨v, w', h1, v', g', h2, hc _ _ h3, h4⟩⟩
theorem nil_sz {g : Gh} {a b : Nat} {x : D} {v : Value} (h : AVR g (.tup [.d (.fs a []), .d x]) v) : AVR g (.tup [.d (.fs b []), .d x]) v := by
 cases h with | tup _ vs h1 h2 => ?_
 refine .tup _ _ h1 fun j hj => ?_
 have := h2 j hj
 match j, hj with
 | 0, hj =>
  simp only [List.getElem_cons_zero] at this ⊢
  generalize vs.getD 0 undef = q at this
  cases this with | d _ _ hd => ?_
  cases hd with
  | fs0 => exact .d _ _ (.fs0 _ _ _)
  | fs _ _ _ _ _ _ _ hl =>
   obtain rfl : 0 = _ := hl
   exact .d _ _ (.fs0 _ _ _)
 | 1, hj => exact this
theorem topT {L : List Nod} (h : L.length ≤ 64) : AV.tup [.d (.fs 3 (L.map encN)), .d (.bl true)] = AV.tup [.d (.fs 3 ((L.take 64).map encN)), .d (.bl (decide (L.length ≤ 64)))] := by rw [List.take_of_length_le h, decide_eq_true h]
theorem topF {L : List Nod} (h : ¬ L.length ≤ 64) : AV.tup [.d (.fs 3 ((L.take 64).map encN)), .d (.bl false)] = AV.tup [.d (.fs 3 ((L.take 64).map encN)), .d (.bl (decide (L.length ≤ 64)))] := by rw [decide_eq_false h]
set_option maxHeartbeats 8000000 in
theorem tree_ok (d : Option Dk) (hd : DkOK d) : FnC Tryz.prog 11 [.d (encD d)] (tupN (treeV (rdS d))) := by
 have hi := inode_ok d hd 0
 unfold treeV
 by_cases hk : (inoAt (rdS d) 0).k = 2
 ·rw [if_pos hk]
  unfold topV tupN
  refine FnC.intro ti_ok Tryz.func11 rfl Tryz.ntmps11 Tryz.call11 rfl (Nat.le_of_ble_eq_true rfl) rfl ?_
  (repeat' ((conv=>whnf);first|with_reducible refine gA ?_|((with_reducible refine callE_id ?_); first | refine CallE.con ⟨_, hi, ?_⟩ | refine CallE.inl ?_) | with_reducible refine CallI.inl ti_ok i25 rfl ?_|(with_reducible first|refine gB ?_|refine gZ (fun x hx hu=>?_)|refine gY (fun x hx=>?_)|refine gE ?_|refine Both.mk ?_ ?_|refine gS (fun h=>?_) (fun h=>?_)|refine Spl.nt ?_|refine Spl.mk (fun h=>?_) (fun h=>?_))))
  conv => whnf
  refine RangeS.wk (Wk.trans (Wk.trans (Wk.nlTs 2 0 1 3 42 (by with_unfolding_all exact rfl) (by with_unfolding_all exact rfl)) (Wk.nilD 6 0 1 (by with_unfolding_all exact rfl))) (Wk.enF (τ := ⟨[(2, .ptr 0 0), (3, .ptr 1 0), (4, .ptr 2 0), (11, clo 4 5 6)], c3 d 0 (.fs 1 (vS [])) 4 5 6 ++ tm0 [], 8⟩) (by (repeat (first | exact trivial | refine And.intro rfl ?_))) (by (repeat (first | exact trivial | refine And.intro (obw_eq rfl (by with_unfolding_all exact rfl)) ?_ | refine And.intro (obw_fr (by with_unfolding_all exact rfl) (by (repeat (first | exact trivial | refine And.intro (by with_unfolding_all exact rfl) ?_)))) ?_))) rfl)) ?_
  refine RangeS.introW ti_ok i46 rfl rfl (lvl0 d hd 0 [] rfl (fun s hs => by cases hs) [] (Nat.zero_le _) [] rfl _ ?_ ?_ ?_)
  ·intro h2
   (repeat' ((conv=>whnf);first|with_reducible refine gA ?_|(with_reducible first|refine gB ?_|refine gZ (fun x hx hu=>?_)|refine gY (fun x hx=>?_)|refine gE ?_|refine Both.mk ?_ ?_|refine gS (fun h=>?_) (fun h=>?_)|refine Spl.nt ?_|refine Spl.mk (fun h=>?_) (fun h=>?_))))
   exact topT h2
  ·intro h2
   (repeat' ((conv=>whnf);first|with_reducible refine gA ?_|(with_reducible first|refine gB ?_|refine gZ (fun x hx hu=>?_)|refine gY (fun x hx=>?_)|refine gE ?_|refine Both.mk ?_ ?_|refine gS (fun h=>?_) (fun h=>?_)|refine Spl.nt ?_|refine Spl.mk (fun h=>?_) (fun h=>?_))))
   exact topT h2
  ·intro h2
   (repeat' ((conv=>whnf);first|with_reducible refine gA ?_|(with_reducible first|refine gB ?_|refine gZ (fun x hx hu=>?_)|refine gY (fun x hx=>?_)|refine gE ?_|refine Both.mk ?_ ?_|refine gS (fun h=>?_) (fun h=>?_)|refine Spl.nt ?_|refine Spl.mk (fun h=>?_) (fun h=>?_))))
   exact topF h2
 ·rw [if_neg hk]
  refine FnC.res (r := .tup [.d (.fs 0 []), .d (.bl true)]) ?_ rfl fun g v => nil_sz
  refine FnC.intro ti_ok Tryz.func11 rfl Tryz.ntmps11 Tryz.call11 rfl (Nat.le_of_ble_eq_true rfl) rfl ?_
  (repeat' ((conv=>whnf);first|with_reducible refine gA ?_|((with_reducible refine callE_id ?_); refine CallE.con ⟨_, hi, ?_⟩)|(with_reducible first|refine gB ?_|refine gZ (fun x hx hu=>?_)|refine gY (fun x hx=>?_)|refine gE ?_|refine Both.mk ?_ ?_|refine gS (fun h=>?_) (fun h=>?_)|refine Spl.nt ?_|refine Spl.mk (fun h=>?_) (fun h=>?_))))
  exact rfl
end Go.Proofs.YtmfokpfddponjaaGreatDoor
