/- Contracts of the functions that the law reaches, and the law. Conditions: none. -/
import Derived.Test.YtkcpcjhjemedpaaDoorKE
import Derived.Test.YtkcpcjhjemedpaaDoorSE
set_option linter.all false
namespace Go.Proofs.YtkcpcjhjemedpaaDoor
open Go.Sy
set_option maxRecDepth 100000
set_option linter.all false
def idxN (v : Nod) : List Nod → Nat → Int
  | [], _ => -1
  | x :: l, k => if v = x then k else idxN v l (k + 1)
theorem nindex_ok (l : List Nod) (v : Nod) (hl4 : l.length ≤ 100000) : FnC Tryd.prog 38 [.d (.fs 3 (l.map encN)), .dg 3 (encN v)] (.d (.it .i64 (idxN v l 0))) := by
  refine FnC.intro ti_ok Tryd.func38 rfl Tryd.ntmps38 Tryd.call38 rfl (Nat.le_of_ble_eq_true rfl) rfl ?_
  have hl := encs_len l
  (repeat' ((conv => whnf); first | with_reducible refine Spl.tt ?_ | with_reducible refine Spl.ff ?_ | with_reducible refine draw_auto ti_ok mixed (by decide +kernel) ?_ | with_reducible refine LetI.i64 (by first | omega | (with_unfolding_all exact Nat.le_of_ble_eq_true rfl) | (simp only [List.length_append, List.length_cons, List.length_nil, List.length_map, chunk_length]; omega)) ?_ | with_reducible refine LetI.u64 (by omega) ?_ | with_reducible refine LetI.u8 (by omega) ?_ | with_reducible refine LetI.i64q (by omega) ?_ | with_reducible refine LetI.u64q (by omega) ?_ | with_reducible refine LetI.rem (by omega) ?_ | with_reducible refine LetN.mk ?_ | with_reducible refine at_hm (by assumption) ?_ | with_reducible refine at_hb (by assumption) ?_ | with_reducible refine at_lit (by simp only [List.length_map, List.length_cons, List.length_nil]; omega) (by with_unfolding_all exact rfl) ?_ | with_reducible refine at_natm8 (by omega) (fun x hx hu => ?_) | with_reducible refine at_nat8 (by omega) (fun x hx hu => ?_) | with_reducible refine at_bi8 (by omega) (fun x hx hu => ?_) | with_reducible refine at_natm (by omega) (fun x hx => ?_) | with_reducible refine at_intm (by omega) (fun x hx => ?_) | with_reducible refine at_nat (by omega) (fun x hx => ?_) | with_reducible refine at_bi (by omega) (fun x hx => ?_) | with_reducible refine And.intro (by first | omega | (dsimp only; omega) | (with_unfolding_all exact Nat.le_of_ble_eq_true rfl) | (simp only [List.length_append, List.length_cons, List.length_nil, List.length_map, chunk_length]; omega)) ?_ | with_reducible refine cond_tt (by first | exact rfl | exact (ble_tt (by first | omega | (dsimp only; omega))) | exact (blt_tt (by first | omega | (dsimp only; omega))) | exact band_tt rfl rfl | exact band_tt rfl (ble_tt (by first | omega | (dsimp only; omega))) | exact band_tt rfl (blt_tt (by first | omega | (dsimp only; omega))) | exact band_tt (ble_tt (by first | omega | (dsimp only; omega))) rfl | exact band_tt (ble_tt (by first | omega | (dsimp only; omega))) (ble_tt (by first | omega | (dsimp only; omega))) | exact band_tt (ble_tt (by first | omega | (dsimp only; omega))) (blt_tt (by first | omega | (dsimp only; omega))) | exact band_tt (blt_tt (by first | omega | (dsimp only; omega))) rfl | exact band_tt (blt_tt (by first | omega | (dsimp only; omega))) (ble_tt (by first | omega | (dsimp only; omega))) | exact band_tt (blt_tt (by first | omega | (dsimp only; omega))) (blt_tt (by first | omega | (dsimp only; omega)))) ?_ | with_reducible refine Both.mk ?_ ?_ | with_reducible refine NilS.ts ?_ | with_reducible refine LetE.now ?_ | with_reducible refine at_some (by with_unfolding_all exact rfl) ?_ | with_reducible refine Spl.yes (by decide +kernel) ?_ | with_reducible refine Spl.no (by decide +kernel) ?_ | with_reducible refine Spl.yes (by (first | with_reducible assumption | with_unfolding_all exact rfl | exact dtt (by omega) | exact ett (by omega) | exact ntt (by omega) | exact seq_tt (by with_unfolding_all assumption) | exact sne_tt (by with_unfolding_all assumption))) ?_ | with_reducible refine Spl.no (by (first | with_reducible assumption | with_unfolding_all exact rfl | exact dff (by omega) | exact eff (by omega) | exact nff (by omega) | exact seq_ff (by with_unfolding_all assumption) | exact sne_ff (by with_unfolding_all assumption))) ?_ | with_reducible refine Spl.pd (fun h => ?_) (fun h => ?_) | with_reducible refine Spl.peq (fun h => ?_) (fun h => ?_) | with_reducible refine Spl.pne (fun h => ?_) (fun h => ?_) | with_reducible refine Spl.seq (fun h => ?_) (fun h => ?_) | with_reducible refine Spl.sne (fun h => ?_) (fun h => ?_) | with_reducible refine Spl.nt ?_ | with_reducible refine Spl.mk (fun h => ?_) (fun h => ?_)))
  refine loop_rule ti_ok (fun k : Nat => k ≤ l.length ∧ idxN v l 0 = idxN v (l.drop k) k) (fun k => ⟨[(0, .d (.fs 3 (l.map encN))), (3, .ptr 0 0), (7, .d (.it .i64 l.length)), (8, .d (.it .i64 k))], [(0, .cells 3 ((encN v).map .d))], 1⟩) (fun k => l.length - k) 0 ⟨Nat.zero_le _, rfl⟩ ⟨⟨rfl, rfl, it_eq (by rw [hl]), rfl, trivial⟩, ⟨rfl, trivial⟩, rfl⟩ ?_
  intro k ⟨k1, k2⟩
  rcases Nat.lt_or_ge k l.length with hkl | hkl
  · obtain ⟨x, hx⟩ := lt_get hkl
    rw [drop_ofX hx] at k2
    (repeat' ((conv => whnf); first | with_reducible refine Spl.tt ?_ | with_reducible refine Spl.ff ?_ | with_reducible refine draw_auto ti_ok mixed (by decide +kernel) ?_ | with_reducible refine LetI.i64 (by first | omega | (with_unfolding_all exact Nat.le_of_ble_eq_true rfl) | (simp only [List.length_append, List.length_cons, List.length_nil, List.length_map, chunk_length]; omega)) ?_ | with_reducible refine LetI.u64 (by omega) ?_ | with_reducible refine LetI.u8 (by omega) ?_ | with_reducible refine LetI.i64q (by omega) ?_ | with_reducible refine LetI.u64q (by omega) ?_ | with_reducible refine LetI.rem (by omega) ?_ | with_reducible refine LetN.mk ?_ | with_reducible refine at_hm (by assumption) ?_ | with_reducible refine at_hb (by assumption) ?_ | with_reducible refine at_lit (by simp only [List.length_map, List.length_cons, List.length_nil]; omega) (by with_unfolding_all exact rfl) ?_ | with_reducible refine at_natm8 (by omega) (fun x hx hu => ?_) | with_reducible refine at_nat8 (by omega) (fun x hx hu => ?_) | with_reducible refine at_bi8 (by omega) (fun x hx hu => ?_) | with_reducible refine at_natm (by omega) (fun x hx => ?_) | with_reducible refine at_intm (by omega) (fun x hx => ?_) | with_reducible refine at_nat (by omega) (fun x hx => ?_) | with_reducible refine at_bi (by omega) (fun x hx => ?_) | with_reducible refine And.intro (by first | omega | (dsimp only; omega) | (with_unfolding_all exact Nat.le_of_ble_eq_true rfl) | (simp only [List.length_append, List.length_cons, List.length_nil, List.length_map, chunk_length]; omega)) ?_ | with_reducible refine cond_tt (by first | exact rfl | exact (ble_tt (by first | omega | (dsimp only; omega))) | exact (blt_tt (by first | omega | (dsimp only; omega))) | exact band_tt rfl rfl | exact band_tt rfl (ble_tt (by first | omega | (dsimp only; omega))) | exact band_tt rfl (blt_tt (by first | omega | (dsimp only; omega))) | exact band_tt (ble_tt (by first | omega | (dsimp only; omega))) rfl | exact band_tt (ble_tt (by first | omega | (dsimp only; omega))) (ble_tt (by first | omega | (dsimp only; omega))) | exact band_tt (ble_tt (by first | omega | (dsimp only; omega))) (blt_tt (by first | omega | (dsimp only; omega))) | exact band_tt (blt_tt (by first | omega | (dsimp only; omega))) rfl | exact band_tt (blt_tt (by first | omega | (dsimp only; omega))) (ble_tt (by first | omega | (dsimp only; omega))) | exact band_tt (blt_tt (by first | omega | (dsimp only; omega))) (blt_tt (by first | omega | (dsimp only; omega)))) ?_ | with_reducible refine Both.mk ?_ ?_ | with_reducible refine NilS.ts ?_ | with_reducible refine LetE.now ?_ | with_reducible refine at_some (by with_unfolding_all exact rfl) ?_ | with_reducible refine Spl.yes (by decide +kernel) ?_ | with_reducible refine Spl.no (by decide +kernel) ?_ | with_reducible refine Spl.yes (by (first | with_reducible assumption | with_unfolding_all exact rfl | exact dtt (by omega) | exact ett (by omega) | exact ntt (by omega) | exact seq_tt (by with_unfolding_all assumption) | exact sne_tt (by with_unfolding_all assumption))) ?_ | with_reducible refine Spl.no (by (first | with_reducible assumption | with_unfolding_all exact rfl | exact dff (by omega) | exact eff (by omega) | exact nff (by omega) | exact seq_ff (by with_unfolding_all assumption) | exact sne_ff (by with_unfolding_all assumption))) ?_ | with_reducible refine Spl.pd (fun h => ?_) (fun h => ?_) | with_reducible refine Spl.peq (fun h => ?_) (fun h => ?_) | with_reducible refine Spl.pne (fun h => ?_) (fun h => ?_) | with_reducible refine Spl.seq (fun h => ?_) (fun h => ?_) | with_reducible refine Spl.sne (fun h => ?_) (fun h => ?_) | with_reducible refine Spl.nt ?_ | with_reducible refine Spl.mk (fun h => ?_) (fun h => ?_)))
    · have h' : eqDs (encN v) (encN x) = true := h
      rw [eqN, decide_eq_true_eq] at h'
      refine it_eq ?_
      rw [k2, idxN, if_pos h']
    · have h' : eqDs (encN v) (encN x) = false := h
      rw [eqN, decide_eq_false_iff_not] at h'
      refine again (k + 1) ⟨by omega, ?_⟩ (by dsimp only; omega) (And.intro rfl (And.intro rfl (And.intro rfl (And.intro rfl trivial)))) (And.intro rfl trivial) rfl
      rw [k2, idxN, if_neg h']
  · (repeat' ((conv => whnf); first | with_reducible refine Spl.tt ?_ | with_reducible refine Spl.ff ?_ | with_reducible refine draw_auto ti_ok mixed (by decide +kernel) ?_ | with_reducible refine LetI.i64 (by first | omega | (with_unfolding_all exact Nat.le_of_ble_eq_true rfl) | (simp only [List.length_append, List.length_cons, List.length_nil, List.length_map, chunk_length]; omega)) ?_ | with_reducible refine LetI.u64 (by omega) ?_ | with_reducible refine LetI.u8 (by omega) ?_ | with_reducible refine LetI.i64q (by omega) ?_ | with_reducible refine LetI.u64q (by omega) ?_ | with_reducible refine LetI.rem (by omega) ?_ | with_reducible refine LetN.mk ?_ | with_reducible refine at_hm (by assumption) ?_ | with_reducible refine at_hb (by assumption) ?_ | with_reducible refine at_lit (by simp only [List.length_map, List.length_cons, List.length_nil]; omega) (by with_unfolding_all exact rfl) ?_ | with_reducible refine at_natm8 (by omega) (fun x hx hu => ?_) | with_reducible refine at_nat8 (by omega) (fun x hx hu => ?_) | with_reducible refine at_bi8 (by omega) (fun x hx hu => ?_) | with_reducible refine at_natm (by omega) (fun x hx => ?_) | with_reducible refine at_intm (by omega) (fun x hx => ?_) | with_reducible refine at_nat (by omega) (fun x hx => ?_) | with_reducible refine at_bi (by omega) (fun x hx => ?_) | with_reducible refine And.intro (by first | omega | (dsimp only; omega) | (with_unfolding_all exact Nat.le_of_ble_eq_true rfl) | (simp only [List.length_append, List.length_cons, List.length_nil, List.length_map, chunk_length]; omega)) ?_ | with_reducible refine cond_tt (by first | exact rfl | exact (ble_tt (by first | omega | (dsimp only; omega))) | exact (blt_tt (by first | omega | (dsimp only; omega))) | exact band_tt rfl rfl | exact band_tt rfl (ble_tt (by first | omega | (dsimp only; omega))) | exact band_tt rfl (blt_tt (by first | omega | (dsimp only; omega))) | exact band_tt (ble_tt (by first | omega | (dsimp only; omega))) rfl | exact band_tt (ble_tt (by first | omega | (dsimp only; omega))) (ble_tt (by first | omega | (dsimp only; omega))) | exact band_tt (ble_tt (by first | omega | (dsimp only; omega))) (blt_tt (by first | omega | (dsimp only; omega))) | exact band_tt (blt_tt (by first | omega | (dsimp only; omega))) rfl | exact band_tt (blt_tt (by first | omega | (dsimp only; omega))) (ble_tt (by first | omega | (dsimp only; omega))) | exact band_tt (blt_tt (by first | omega | (dsimp only; omega))) (blt_tt (by first | omega | (dsimp only; omega)))) ?_ | with_reducible refine Both.mk ?_ ?_ | with_reducible refine NilS.ts ?_ | with_reducible refine LetE.now ?_ | with_reducible refine at_some (by with_unfolding_all exact rfl) ?_ | with_reducible refine Spl.yes (by decide +kernel) ?_ | with_reducible refine Spl.no (by decide +kernel) ?_ | with_reducible refine Spl.yes (by (first | with_reducible assumption | with_unfolding_all exact rfl | exact dtt (by omega) | exact ett (by omega) | exact ntt (by omega) | exact seq_tt (by with_unfolding_all assumption) | exact sne_tt (by with_unfolding_all assumption))) ?_ | with_reducible refine Spl.no (by (first | with_reducible assumption | with_unfolding_all exact rfl | exact dff (by omega) | exact eff (by omega) | exact nff (by omega) | exact seq_ff (by with_unfolding_all assumption) | exact sne_ff (by with_unfolding_all assumption))) ?_ | with_reducible refine Spl.pd (fun h => ?_) (fun h => ?_) | with_reducible refine Spl.peq (fun h => ?_) (fun h => ?_) | with_reducible refine Spl.pne (fun h => ?_) (fun h => ?_) | with_reducible refine Spl.seq (fun h => ?_) (fun h => ?_) | with_reducible refine Spl.sne (fun h => ?_) (fun h => ?_) | with_reducible refine Spl.nt ?_ | with_reducible refine Spl.mk (fun h => ?_) (fun h => ?_)))
    refine it_eq ?_
    rw [k2, List.drop_eq_nil_of_le hkl]; rfl
theorem idx_app {v : Nod} : ∀ {a b : List Nod} {k : Nat}, v ∉ a → idxN v (a ++ v :: b) k = ((k + a.length : Nat) : Int)
  | [], b, k, _ => by rw [List.nil_append, idxN, if_pos rfl]; rfl
  | x :: a, b, k, h => by
    have hne : ¬ v = x := fun e => h (by rw [e]; exact List.mem_cons_self)
    rw [List.cons_append, idxN, if_neg hne, idx_app (fun e => h (List.mem_cons_of_mem _ e))]
    simp only [List.length_cons]
    omega
end Go.Proofs.YtkcpcjhjemedpaaDoor

namespace Go.Proofs.YtkcpcjhjemedpaaDoor
open Go.Sy
set_option maxRecDepth 100000
set_option linter.all false
def bI (d n : Nat) : Nat × Nat → Prop
  | (i, j) => i ≤ d ∧ d ≤ j ∧ j ≤ n
def bF (O : List Nod) (p : List UInt8) : Nat × Nat → List (Nat × AV)
  | (i, j) => [(0, .d (.fs 3 (O.map encN))), (1, .d (.st p)), (2, .fn (.func 53) [] []), (8, .d (.it .i64 O.length)), (9, .d (.it .i64 i)), (10, .d (.it .i64 j))]
def bM : Nat × Nat → Nat
  | (i, j) => j - i
theorem tupIB {a b : Int} {x y : Bool} (h : a = b) (h' : x = y) : AV.tup [.d (.it .i64 a), .d (.bl x)] = AV.tup [.d (.it .i64 b), .d (.bl y)] := by rw [h, h']
theorem shr1 (i j : Nat) : ((i : Int) + (j : Int)).fdiv (2 ^ (min (1 : Int).toNat (IntKind.bits .u64))) = (((i + j) / 2 : Nat) : Int) := by
  have : (2 ^ (min (1 : Int).toNat (IntKind.bits .u64)) : Int) = 2 := by decide
  rw [this, Int.fdiv_eq_ediv_of_nonneg _ (by omega)]; omega
theorem find_ok (D R : List Nod) (p : List UInt8) (hD : ∀ x ∈ D, cmpN (key x.p) (key p) < 0) (hR : ∀ x ∈ R, 0 < cmpN (key x.p) (key p)) (hl4 : (D ++ R).length ≤ 100000) (hp : p.length ≤ 1000) (ho : okL (D ++ R)) : FnC Tryd.prog 39 [.d (.fs 3 ((D ++ R).map encN)), .d (.st p)] (.tup [.d (.it .i64 D.length), .d (.bl false)]) := by
  refine FnC.intro ti_ok Tryd.func39 rfl Tryd.ntmps39 Tryd.call39 rfl (Nat.le_of_ble_eq_true rfl) rfl ?_
  have hl := encs_len (D ++ R)
  generalize hO : D ++ R = O at hl hl4 ho
  (repeat' ((conv => whnf); first | with_reducible refine Spl.tt ?_ | with_reducible refine Spl.ff ?_ | with_reducible refine CallI.inl ti_ok i52 rfl ?_ | with_reducible refine draw_auto ti_ok mixed (by decide +kernel) ?_ | with_reducible refine LetI.i64 (by first | omega | (with_unfolding_all exact Nat.le_of_ble_eq_true rfl) | (simp only [List.length_append, List.length_cons, List.length_nil, List.length_map, chunk_length]; omega)) ?_ | with_reducible refine LetI.u64 (by omega) ?_ | with_reducible refine LetI.u8 (by omega) ?_ | with_reducible refine LetI.i64q (by omega) ?_ | with_reducible refine LetI.u64q (by omega) ?_ | with_reducible refine LetI.rem (by omega) ?_ | with_reducible refine LetN.mk ?_ | with_reducible refine at_hm (by assumption) ?_ | with_reducible refine at_hb (by assumption) ?_ | with_reducible refine at_lit (by simp only [List.length_map, List.length_cons, List.length_nil]; omega) (by with_unfolding_all exact rfl) ?_ | with_reducible refine at_natm8 (by omega) (fun x hx hu => ?_) | with_reducible refine at_nat8 (by omega) (fun x hx hu => ?_) | with_reducible refine at_bi8 (by omega) (fun x hx hu => ?_) | with_reducible refine at_natm (by omega) (fun x hx => ?_) | with_reducible refine at_intm (by omega) (fun x hx => ?_) | with_reducible refine at_nat (by omega) (fun x hx => ?_) | with_reducible refine at_bi (by omega) (fun x hx => ?_) | with_reducible refine And.intro (by first | omega | (dsimp only; omega) | (with_unfolding_all exact Nat.le_of_ble_eq_true rfl) | (simp only [List.length_append, List.length_cons, List.length_nil, List.length_map, chunk_length]; omega)) ?_ | with_reducible refine cond_tt (by first | exact rfl | exact (ble_tt (by first | omega | (dsimp only; omega))) | exact (blt_tt (by first | omega | (dsimp only; omega))) | exact band_tt rfl rfl | exact band_tt rfl (ble_tt (by first | omega | (dsimp only; omega))) | exact band_tt rfl (blt_tt (by first | omega | (dsimp only; omega))) | exact band_tt (ble_tt (by first | omega | (dsimp only; omega))) rfl | exact band_tt (ble_tt (by first | omega | (dsimp only; omega))) (ble_tt (by first | omega | (dsimp only; omega))) | exact band_tt (ble_tt (by first | omega | (dsimp only; omega))) (blt_tt (by first | omega | (dsimp only; omega))) | exact band_tt (blt_tt (by first | omega | (dsimp only; omega))) rfl | exact band_tt (blt_tt (by first | omega | (dsimp only; omega))) (ble_tt (by first | omega | (dsimp only; omega))) | exact band_tt (blt_tt (by first | omega | (dsimp only; omega))) (blt_tt (by first | omega | (dsimp only; omega)))) ?_ | with_reducible refine Both.mk ?_ ?_ | with_reducible refine NilS.ts ?_ | with_reducible refine LetE.now ?_ | with_reducible refine at_some (by with_unfolding_all exact rfl) ?_ | with_reducible refine Spl.yes (by decide +kernel) ?_ | with_reducible refine Spl.no (by decide +kernel) ?_ | with_reducible refine Spl.yes (by (first | with_reducible assumption | with_unfolding_all exact rfl | exact dtt (by omega) | exact ett (by omega) | exact ntt (by omega) | exact seq_tt (by with_unfolding_all assumption) | exact sne_tt (by with_unfolding_all assumption))) ?_ | with_reducible refine Spl.no (by (first | with_reducible assumption | with_unfolding_all exact rfl | exact dff (by omega) | exact eff (by omega) | exact nff (by omega) | exact seq_ff (by with_unfolding_all assumption) | exact sne_ff (by with_unfolding_all assumption))) ?_ | with_reducible refine Spl.pd (fun h => ?_) (fun h => ?_) | with_reducible refine Spl.peq (fun h => ?_) (fun h => ?_) | with_reducible refine Spl.pne (fun h => ?_) (fun h => ?_) | with_reducible refine Spl.seq (fun h => ?_) (fun h => ?_) | with_reducible refine Spl.sne (fun h => ?_) (fun h => ?_) | with_reducible refine Spl.nt ?_ | with_reducible refine Spl.mk (fun h => ?_) (fun h => ?_)))
  have hD2 : ∀ k x, O[k]? = some x → k < D.length → cmpN (key x.p) (key p) < 0 := fun k x hx hk => by
    rw [← hO, List.getElem?_append_left hk] at hx
    exact hD x (List.mem_of_getElem? hx)
  have hR2 : ∀ k x, O[k]? = some x → D.length ≤ k → 0 < cmpN (key x.p) (key p) := fun k x hx hk => by
    rw [← hO, List.getElem?_append_right hk] at hx
    exact hR x (List.mem_of_getElem? hx)
  have hDO : D.length ≤ O.length := by rw [← hO]; simp
  refine loop_mem ti_ok (bI D.length O.length) (bF O p) (fun _ => []) [] bM (0, O.length) ⟨Nat.zero_le _, hDO, Nat.le_refl _⟩ ⟨rfl, rfl, rfl, it_eq (by rw [hl]), rfl, it_eq (by rw [hl]), trivial⟩ (by show EntL _ (nubK _ _); exact entL_nub _ _) rfl rfl ?_
  rintro ⟨i, j⟩ ⟨h1, h2, h3⟩
  rcases Nat.lt_or_ge i j with hij | hij
  · obtain ⟨x, hx⟩ := lt_get (l := O) (k := (i + j) / 2) (by omega)
    have bx := ho x (List.mem_of_getElem? hx)
    have hpp := paths_ok x.p p (by omega) (by omega)
    unfold bF
    (repeat' ((conv => whnf); first | with_reducible refine Spl.tt ?_ | with_reducible refine Spl.ff ?_ | with_reducible refine LetI.eq (((i + j) / 2 : Nat) : Int) (by with_unfolding_all exact shr1 i j) ?_ | with_reducible refine at_known hx ?_ | refine CallE.con ⟨_, hpp, ?_⟩ | with_reducible refine CallI.inl ti_ok i53 rfl ?_ | with_reducible refine draw_auto ti_ok mixed (by decide +kernel) ?_ | with_reducible refine LetI.i64 (by first | omega | (with_unfolding_all exact Nat.le_of_ble_eq_true rfl) | (simp only [List.length_append, List.length_cons, List.length_nil, List.length_map, chunk_length]; omega)) ?_ | with_reducible refine LetI.u64 (by omega) ?_ | with_reducible refine LetI.u8 (by omega) ?_ | with_reducible refine LetI.i64q (by omega) ?_ | with_reducible refine LetI.u64q (by omega) ?_ | with_reducible refine LetI.rem (by omega) ?_ | with_reducible refine LetN.mk ?_ | with_reducible refine at_hm (by assumption) ?_ | with_reducible refine at_hb (by assumption) ?_ | with_reducible refine at_lit (by simp only [List.length_map, List.length_cons, List.length_nil]; omega) (by with_unfolding_all exact rfl) ?_ | with_reducible refine at_natm8 (by omega) (fun x hx hu => ?_) | with_reducible refine at_nat8 (by omega) (fun x hx hu => ?_) | with_reducible refine at_bi8 (by omega) (fun x hx hu => ?_) | with_reducible refine at_natm (by omega) (fun x hx => ?_) | with_reducible refine at_intm (by omega) (fun x hx => ?_) | with_reducible refine at_nat (by omega) (fun x hx => ?_) | with_reducible refine at_bi (by omega) (fun x hx => ?_) | with_reducible refine And.intro (by first | omega | (dsimp only; omega) | (with_unfolding_all exact Nat.le_of_ble_eq_true rfl) | (simp only [List.length_append, List.length_cons, List.length_nil, List.length_map, chunk_length]; omega)) ?_ | with_reducible refine cond_tt (by first | exact rfl | exact (ble_tt (by first | omega | (dsimp only; omega))) | exact (blt_tt (by first | omega | (dsimp only; omega))) | exact band_tt rfl rfl | exact band_tt rfl (ble_tt (by first | omega | (dsimp only; omega))) | exact band_tt rfl (blt_tt (by first | omega | (dsimp only; omega))) | exact band_tt (ble_tt (by first | omega | (dsimp only; omega))) rfl | exact band_tt (ble_tt (by first | omega | (dsimp only; omega))) (ble_tt (by first | omega | (dsimp only; omega))) | exact band_tt (ble_tt (by first | omega | (dsimp only; omega))) (blt_tt (by first | omega | (dsimp only; omega))) | exact band_tt (blt_tt (by first | omega | (dsimp only; omega))) rfl | exact band_tt (blt_tt (by first | omega | (dsimp only; omega))) (ble_tt (by first | omega | (dsimp only; omega))) | exact band_tt (blt_tt (by first | omega | (dsimp only; omega))) (blt_tt (by first | omega | (dsimp only; omega)))) ?_ | with_reducible refine Both.mk ?_ ?_ | with_reducible refine NilS.ts ?_ | with_reducible refine LetE.now ?_ | with_reducible refine at_some (by with_unfolding_all exact rfl) ?_ | with_reducible refine Spl.yes (by decide +kernel) ?_ | with_reducible refine Spl.no (by decide +kernel) ?_ | with_reducible refine Spl.yes (by (first | with_reducible assumption | with_unfolding_all exact rfl | exact dtt (by omega) | exact ett (by omega) | exact ntt (by omega) | exact seq_tt (by with_unfolding_all assumption) | exact sne_tt (by with_unfolding_all assumption))) ?_ | with_reducible refine Spl.no (by (first | with_reducible assumption | with_unfolding_all exact rfl | exact dff (by omega) | exact eff (by omega) | exact nff (by omega) | exact seq_ff (by with_unfolding_all assumption) | exact sne_ff (by with_unfolding_all assumption))) ?_ | with_reducible refine Spl.pd (fun h => ?_) (fun h => ?_) | with_reducible refine Spl.peq (fun h => ?_) (fun h => ?_) | with_reducible refine Spl.pne (fun h => ?_) (fun h => ?_) | with_reducible refine Spl.seq (fun h => ?_) (fun h => ?_) | with_reducible refine Spl.sne (fun h => ?_) (fun h => ?_) | with_reducible refine Spl.nt ?_ | with_reducible refine Spl.mk (fun h => ?_) (fun h => ?_)))
    · refine againM ((i + j) / 2 + 1, j) ⟨?_, h2, h3⟩ (by show j - ((i + j) / 2 + 1) < j - i; omega) (And.intro rfl (And.intro rfl (And.intro rfl (And.intro rfl (And.intro (it_eq ?_) (And.intro rfl trivial)))))) ?_ rfl rfl
      · rcases Nat.lt_or_ge ((i + j) / 2) D.length with h' | h'
        · exact h'
        · have := hR2 _ _ hx h'; omega
      · omega
      · (repeat (first | exact trivial | refine And.intro rfl ?_))
    · refine againM (i, (i + j) / 2) ⟨h1, ?_, by omega⟩ (by show (i + j) / 2 - i < j - i; omega) (And.intro rfl (And.intro rfl (And.intro rfl (And.intro rfl (And.intro rfl (And.intro rfl trivial)))))) ?_ rfl rfl
      · rcases Nat.lt_or_ge ((i + j) / 2) D.length with h' | h'
        · have := hD2 _ _ hx h'; omega
        · exact h'
      · (repeat (first | exact trivial | refine And.intro rfl ?_))
  · have hij2 : i = D.length := by omega
    unfold bF
    (repeat' ((conv => whnf); first | with_reducible refine Spl.tt ?_ | with_reducible refine Spl.ff ?_ | refine CallE.con ⟨_, paths_ok _ _ (by have := ho _ (List.mem_of_getElem? hx); omega) (by omega), ?_⟩ | with_reducible refine CallI.inl ti_ok i53 rfl ?_ | with_reducible refine draw_auto ti_ok mixed (by decide +kernel) ?_ | with_reducible refine LetI.i64 (by first | omega | (with_unfolding_all exact Nat.le_of_ble_eq_true rfl) | (simp only [List.length_append, List.length_cons, List.length_nil, List.length_map, chunk_length]; omega)) ?_ | with_reducible refine LetI.u64 (by omega) ?_ | with_reducible refine LetI.u8 (by omega) ?_ | with_reducible refine LetI.i64q (by omega) ?_ | with_reducible refine LetI.u64q (by omega) ?_ | with_reducible refine LetI.rem (by omega) ?_ | with_reducible refine LetN.mk ?_ | with_reducible refine at_hm (by assumption) ?_ | with_reducible refine at_hb (by assumption) ?_ | with_reducible refine at_lit (by simp only [List.length_map, List.length_cons, List.length_nil]; omega) (by with_unfolding_all exact rfl) ?_ | with_reducible refine at_natm8 (by omega) (fun x hx hu => ?_) | with_reducible refine at_nat8 (by omega) (fun x hx hu => ?_) | with_reducible refine at_bi8 (by omega) (fun x hx hu => ?_) | with_reducible refine at_natm (by omega) (fun x hx => ?_) | with_reducible refine at_intm (by omega) (fun x hx => ?_) | with_reducible refine at_nat (by omega) (fun x hx => ?_) | with_reducible refine at_bi (by omega) (fun x hx => ?_) | with_reducible refine And.intro (by first | omega | (dsimp only; omega) | (with_unfolding_all exact Nat.le_of_ble_eq_true rfl) | (simp only [List.length_append, List.length_cons, List.length_nil, List.length_map, chunk_length]; omega)) ?_ | with_reducible refine cond_tt (by first | exact rfl | exact (ble_tt (by first | omega | (dsimp only; omega))) | exact (blt_tt (by first | omega | (dsimp only; omega))) | exact band_tt rfl rfl | exact band_tt rfl (ble_tt (by first | omega | (dsimp only; omega))) | exact band_tt rfl (blt_tt (by first | omega | (dsimp only; omega))) | exact band_tt (ble_tt (by first | omega | (dsimp only; omega))) rfl | exact band_tt (ble_tt (by first | omega | (dsimp only; omega))) (ble_tt (by first | omega | (dsimp only; omega))) | exact band_tt (ble_tt (by first | omega | (dsimp only; omega))) (blt_tt (by first | omega | (dsimp only; omega))) | exact band_tt (blt_tt (by first | omega | (dsimp only; omega))) rfl | exact band_tt (blt_tt (by first | omega | (dsimp only; omega))) (ble_tt (by first | omega | (dsimp only; omega))) | exact band_tt (blt_tt (by first | omega | (dsimp only; omega))) (blt_tt (by first | omega | (dsimp only; omega)))) ?_ | with_reducible refine Both.mk ?_ ?_ | with_reducible refine NilS.ts ?_ | with_reducible refine LetE.now ?_ | with_reducible refine at_some (by with_unfolding_all exact rfl) ?_ | with_reducible refine Spl.yes (by decide +kernel) ?_ | with_reducible refine Spl.no (by decide +kernel) ?_ | with_reducible refine Spl.yes (by (first | with_reducible assumption | with_unfolding_all exact rfl | exact dtt (by omega) | exact ett (by omega) | exact ntt (by omega) | exact seq_tt (by with_unfolding_all assumption) | exact sne_tt (by with_unfolding_all assumption))) ?_ | with_reducible refine Spl.no (by (first | with_reducible assumption | with_unfolding_all exact rfl | exact dff (by omega) | exact eff (by omega) | exact nff (by omega) | exact seq_ff (by with_unfolding_all assumption) | exact sne_ff (by with_unfolding_all assumption))) ?_ | with_reducible refine Spl.pd (fun h => ?_) (fun h => ?_) | with_reducible refine Spl.peq (fun h => ?_) (fun h => ?_) | with_reducible refine Spl.pne (fun h => ?_) (fun h => ?_) | with_reducible refine Spl.seq (fun h => ?_) (fun h => ?_) | with_reducible refine Spl.sne (fun h => ?_) (fun h => ?_) | with_reducible refine Spl.nt ?_ | with_reducible refine Spl.mk (fun h => ?_) (fun h => ?_)))
    · have := hR2 _ _ hx (by omega)
      exact tupIB (by omega) (by first | (rw [decide_eq_false (by omega)]) | (simp; omega))
    · exact tupIB (by omega) rfl
end Go.Proofs.YtkcpcjhjemedpaaDoor

namespace Go.Proofs.YtkcpcjhjemedpaaDoor
open Go.Sy
set_option maxRecDepth 100000
set_option linter.all false
theorem okC_cons {c : Chg} {l : List Chg} (hc : c.a.p.length ≤ 200 ∧ c.b.p.length ≤ 200) (h : okC l) : okC (c :: l) := fun z hz => by
  rcases List.mem_cons.1 hz with rfl | hz
  · exact hc
  · exact h z hz
theorem diffD_ok : ∀ (a b : List Nod), okL a → okL b → okC (diffD a b) ∧ (diffD a b).length ≤ a.length + b.length
  | [], [], _, _ => by rw [diffD]; exact ⟨(fun z hz => by cases hz), Nat.zero_le _⟩
  | [], y :: b, ha, hb => by
    rw [diffD]
    obtain ⟨h1, h2⟩ := diffD_ok [] b ha (okL_tail hb)
    have := hb y List.mem_cons_self
    refine ⟨okC_cons ⟨Nat.zero_le _, this.1⟩ h1, ?_⟩
    simp only [List.length_cons, List.length_nil] at h2 ⊢; omega
  | x :: a, [], ha, hb => by
    rw [diffD]
    obtain ⟨h1, h2⟩ := diffD_ok a [] (okL_tail ha) hb
    have := ha x List.mem_cons_self
    refine ⟨okC_cons ⟨this.1, Nat.zero_le _⟩ h1, ?_⟩
    simp only [List.length_cons, List.length_nil] at h2 ⊢; omega
  | x :: a, y :: b, ha, hb => by
    have hx := ha x List.mem_cons_self
    have hy := hb y List.mem_cons_self
    rw [diffD]
    split
    · obtain ⟨h1, h2⟩ := diffD_ok a (y :: b) (okL_tail ha) hb
      refine ⟨okC_cons ⟨hx.1, Nat.zero_le _⟩ h1, ?_⟩
      simp only [List.length_cons] at h2 ⊢; omega
    · split
      · obtain ⟨h1, h2⟩ := diffD_ok (x :: a) b ha (okL_tail hb)
        refine ⟨okC_cons ⟨Nat.zero_le _, hy.1⟩ h1, ?_⟩
        simp only [List.length_cons] at h2 ⊢; omega
      · obtain ⟨h1, h2⟩ := diffD_ok a b (okL_tail ha) (okL_tail hb)
        split
        · refine ⟨h1, ?_⟩
          simp only [List.length_cons] at h2 ⊢; omega
        · refine ⟨okC_cons ⟨hx.1, hy.1⟩ h1, ?_⟩
          simp only [List.length_cons] at h2 ⊢; omega
termination_by a b => a.length + b.length
theorem diffD_nil : ∀ (a b : List Nod), diffD a b = [] → a = b
  | [], [], _ => rfl
  | [], y :: b, h => by rw [diffD] at h; cases h
  | x :: a, [], h => by rw [diffD] at h; cases h
  | x :: a, y :: b, h => by
    rw [diffD] at h
    split at h
    · cases h
    · split at h
      · cases h
      · split at h
        · rename_i hxy
          rw [hxy, diffD_nil a b h]
        · cases h
def Nxt (a b : List Nod) (c : Chg) (l : List Chg) : Prop :=
  (∃ x a', a = x :: a' ∧ c = ⟨1, x, nod0⟩ ∧ l = diffD a' b ∧ ∀ y ∈ b.head?, cmpN (key x.p) (key y.p) < 0) ∨
  (∃ y b', b = y :: b' ∧ c = ⟨2, nod0, y⟩ ∧ l = diffD a b' ∧ ∀ x ∈ a.head?, 0 < cmpN (key x.p) (key y.p)) ∨
  ∃ x y a' b', a = x :: a' ∧ b = y :: b' ∧ c = ⟨3, x, y⟩ ∧ cmpN (key x.p) (key y.p) = 0 ∧ x ≠ y ∧ l = diffD a' b'
theorem diffD_next : ∀ (a b : List Nod) (c : Chg) (l : List Chg), diffD a b = c :: l → ∃ E a' b', a = E ++ a' ∧ b = E ++ b' ∧ Nxt a' b' c l
  | [], [], c, l, h => by rw [diffD] at h; cases h
  | [], y :: b, c, l, h => by
    rw [diffD] at h
    cases h
    exact ⟨[], [], y :: b, rfl, rfl, .inr (.inl ⟨y, b, rfl, rfl, rfl, fun x hx => by cases hx⟩)⟩
  | x :: a, [], c, l, h => by
    rw [diffD] at h
    cases h
    exact ⟨[], x :: a, [], rfl, rfl, .inl ⟨x, a, rfl, rfl, rfl, fun y hy => by cases hy⟩⟩
  | x :: a, y :: b, c, l, h => by
    rw [diffD] at h
    split at h
    · rename_i h1
      cases h
      exact ⟨[], x :: a, y :: b, rfl, rfl, .inl ⟨x, a, rfl, rfl, rfl, fun z hz => by cases hz; exact h1⟩⟩
    · rename_i h1
      split at h
      · rename_i h2
        cases h
        exact ⟨[], x :: a, y :: b, rfl, rfl, .inr (.inl ⟨y, b, rfl, rfl, rfl, fun z hz => by cases hz; exact h2⟩)⟩
      · rename_i h2
        split at h
        · rename_i hxy
          obtain ⟨E, a', b', e1, e2, e3⟩ := diffD_next a b c l h
          exact ⟨x :: E, a', b', by rw [e1]; rfl, by rw [e2, hxy]; rfl, e3⟩
        · rename_i hxy
          cases h
          exact ⟨[], x :: a, y :: b, rfl, rfl, .inr (.inr ⟨x, y, a, b, rfl, rfl, rfl, by omega, hxy, rfl⟩)⟩
end Go.Proofs.YtkcpcjhjemedpaaDoor

namespace Go.Proofs.YtkcpcjhjemedpaaDoor
open Go.Sy
set_option maxRecDepth 100000
set_option linter.all false
def Zp (D a b : List Nod) : Prop := GoodL (D ++ a) ∧ GoodL (D ++ b)
theorem zp_skip {D E a b : List Nod} (h : Zp D (E ++ a) (E ++ b)) : Zp (D ++ E) a b := by
  unfold Zp at *; rw [List.append_assoc, List.append_assoc]; exact h
theorem good_drop {D a : List Nod} {x : Nod} (h : GoodL (D ++ x :: a)) : GoodL (D ++ a) := by
  have hs : (D ++ a).Sublist (D ++ x :: a) := List.Sublist.append_left (List.sublist_cons_self _ _) _
  exact ⟨fun y hy => h.1 y (hs.subset hy), h.2.sublist hs⟩
theorem zp_drop {D a b : List Nod} {x : Nod} (h : Zp D (x :: a) b) : Zp D a b := ⟨good_drop h.1, h.2⟩
theorem good_lt {D a : List Nod} {x : Nod} (h : GoodL (D ++ x :: a)) : (∀ d ∈ D, lt d x) ∧ ∀ r ∈ a, lt x r := by
  obtain ⟨h1, h2, h3⟩ := List.pairwise_append.1 h.2
  exact ⟨fun d hd => h3 d hd x List.mem_cons_self, fun r hr => (List.pairwise_cons.1 h2).1 r hr⟩
theorem good_ins {D a : List Nod} {y : Nod} (h : GoodL (D ++ a)) (hm : mayB y = true) (h1 : ∀ d ∈ D, lt d y) (h2 : ∀ r ∈ a, lt y r) : GoodL (D ++ y :: a) := by
  obtain ⟨k1, k2, k3⟩ := List.pairwise_append.1 h.2
  refine ⟨fun x hx => ?_, List.pairwise_append.2 ⟨k1, List.pairwise_cons.2 ⟨h2, k2⟩, fun d hd r hr => ?_⟩⟩
  · rcases List.mem_append.1 hx with hx | hx
    · exact h.1 x (List.mem_append_left _ hx)
    · rcases List.mem_cons.1 hx with rfl | hx
      · exact hm
      · exact h.1 x (List.mem_append_right _ hx)
  · rcases List.mem_cons.1 hr with rfl | hr
    · exact h1 d hd
    · exact k3 d hd r hr
theorem zp_put {D a b : List Nod} {y : Nod} (h : Zp D a (y :: b)) (h2 : ∀ r ∈ a, lt y r) : Zp (D ++ [y]) a b ∧ D ++ y :: a = (D ++ [y]) ++ a := by
  have e : ∀ l : List Nod, (D ++ [y]) ++ l = D ++ y :: l := fun l => by rw [List.append_assoc]; rfl
  refine ⟨⟨?_, ?_⟩, (e a).symm⟩
  · rw [e]; exact good_ins h.1 (h.2.1 y (List.mem_append_right _ List.mem_cons_self)) (good_lt h.2).1 h2
  · rw [e]; exact h.2
theorem zp_notin {D a b : List Nod} {x : Nod} (h : Zp D (x :: a) b) : x ∉ D := fun hx => lt_irr x ((good_lt h.1).1 x hx)
/-- Behind the head as behind what the head is above. -/
theorem head_all {D a : List Nod} {y : Nod} (h : GoodL (D ++ a)) (h1 : ∀ x ∈ a.head?, lt y x) : ∀ r ∈ a, lt y r := by
  cases a with
  | nil => exact fun r hr => by cases hr
  | cons x a =>
    intro r hr
    have hx := h1 x rfl
    rcases List.mem_cons.1 hr with rfl | hr
    · exact hx
    · exact lt_trans hx ((good_lt h).2 r hr)
end Go.Proofs.YtkcpcjhjemedpaaDoor

namespace Go.Proofs.YtkcpcjhjemedpaaDoor
open Go.Sy
set_option maxRecDepth 100000
set_option linter.all false
def Gd (l : List Nod) : Prop := GoodL l ∧ okL l ∧ l.length ≤ 1000
inductive Step : List Nod → Chg → List Nod → Prop
  | gone (Z R : List Nod) (x : Nod) : Step (Z ++ x :: R) ⟨1, x, nod0⟩ (Z ++ R)
  | added (Z R : List Nod) (y : Nod) : Step (Z ++ R) ⟨2, nod0, y⟩ (Z ++ y :: R)
  | changed (Z R : List Nod) (x y : Nod) (h : x.p = y.p) : Step (Z ++ x :: R) ⟨3, x, y⟩ (Z ++ y :: R)
inductive Steps : List Nod → List Chg → List Nod → Prop
  | nil {a : List Nod} (h : Gd a) : Steps a [] a
  | cons {a b d : List Nod} {c : Chg} {l : List Chg} (h : Gd a) (h1 : Step a c b) (h2 : Steps b l d) : Steps a (c :: l) d
theorem Step.turn {a b : List Nod} {c : Chg} (h : Step a c b) : Step b (turnC c) a := by
  cases h with
  | gone Z R x => exact .added Z R x
  | added Z R y => exact .gone Z R y
  | changed Z R x y h => exact .changed Z R y x h.symm
theorem Steps.good {a b : List Nod} {l : List Chg} (h : Steps a l b) : Gd a := by cases h <;> assumption
theorem Steps.goodR {a b : List Nod} {l : List Chg} (h : Steps a l b) : Gd b := by
  induction h with
  | nil h => exact h
  | cons _ _ _ ih => exact ih
theorem Steps.app {a b d : List Nod} {l m : List Chg} (h : Steps a l b) (h' : Steps b m d) : Steps a (l ++ m) d := by
  induction h with
  | nil h => exact h'
  | cons h h1 h2 ih => exact .cons h h1 (ih h')
theorem Steps.turn {a b : List Nod} {l : List Chg} (h : Steps a l b) : Steps b (l.reverse.map turnC) a := by
  induction h with
  | nil h => exact .nil h
  | cons h h1 h2 ih =>
    rw [List.reverse_cons, List.map_append]
    exact ih.app (.cons h2.good h1.turn (.nil h))
theorem okL_app {a b : List Nod} : okL (a ++ b) ↔ okL a ∧ okL b :=
  ⟨fun h => ⟨fun x hx => h x (List.mem_append_left _ hx), fun x hx => h x (List.mem_append_right _ hx)⟩, fun h x hx => (List.mem_append.1 hx).elim (h.1 x) (h.2 x)⟩
theorem okL_cons {x : Nod} {a : List Nod} : okL (x :: a) ↔ okL [x] ∧ okL a := okL_app (a := [x]) (b := a)
theorem path_eq {x y : Nod} (hx : mayB x = true) (hy : mayB y = true) (h : cmpN (key x.p) (key y.p) = 0) : x.p = y.p := by
  rw [← may_path hx, ← may_path hy, cmpN_0 h]
theorem gd_drop {D a : List Nod} {x : Nod} (h : Gd (D ++ x :: a)) : Gd (D ++ a) := by
  refine ⟨good_drop h.1, ?_, ?_⟩
  · have := h.2.1
    rw [okL_app, okL_cons] at this
    rw [okL_app]; exact ⟨this.1, this.2.2⟩
  · have := h.2.2
    simp only [List.length_append, List.length_cons] at this ⊢; omega
theorem steps_diff : ∀ (l : List Chg) (D a b : List Nod), Zp D a b → okL (D ++ a) → okL (D ++ b) → D.length + a.length + b.length ≤ 1000 → diffD a b = l → Steps (D ++ a) l (D ++ b)
  | [], D, a, b, hz, oa, ob, hl, hd => by
    rw [diffD_nil _ _ hd]
    exact .nil ⟨hz.2, ob, by simp only [List.length_append]; omega⟩
  | c :: l, D, a, b, hz, oa, ob, hl, hd => by
    have gA : Gd (D ++ a) := ⟨hz.1, oa, by simp only [List.length_append]; omega⟩
    obtain ⟨E, a2, b2, rfl, rfl, hn⟩ := diffD_next _ _ _ _ hd
    have hz := zp_skip hz
    have eA : D ++ (E ++ a2) = (D ++ E) ++ a2 := (List.append_assoc ..).symm
    have eB : D ++ (E ++ b2) = (D ++ E) ++ b2 := (List.append_assoc ..).symm
    have hl : (D ++ E).length + a2.length + b2.length ≤ 1000 := by simp only [List.length_append] at hl ⊢; omega
    rw [eA] at oa gA ⊢
    rw [eB] at ob ⊢
    clear eA eB
    generalize D ++ E = Z at *
    rcases hn with ⟨x, a3, rfl, rfl, hl3, hh⟩ | ⟨y, b3, rfl, rfl, hl3, hh⟩ | ⟨x, y, a3, b3, rfl, rfl, rfl, hxy, hne, hl3⟩
    · have g2 := gd_drop gA
      exact .cons gA (.gone Z a3 x) (steps_diff l Z a3 b2 (zp_drop hz) g2.2.1 ob (by simp only [List.length_cons] at hl; omega) hl3.symm)
    · have ha2 : ∀ r ∈ a2, lt y r := head_all hz.1 fun x hx => by
        have := hh x hx
        unfold lt
        rw [cmpN_anti (key x.p) (key y.p)]; omega
      obtain ⟨z1, z2⟩ := zp_put hz ha2
      have e : ∀ m : List Nod, Z ++ y :: m = (Z ++ [y]) ++ m := fun m => by rw [List.append_assoc]; rfl
      have ob2 := ob
      rw [okL_app, okL_cons] at ob2
      have oa2 := oa
      rw [okL_app] at oa2
      refine .cons gA (.added Z a2 y) ?_
      have := steps_diff l (Z ++ [y]) a2 b3 z1 (by rw [okL_app, okL_app]; exact ⟨⟨oa2.1, ob2.2.1⟩, oa2.2⟩) (by rw [← e]; exact ob) (by simp only [List.length_append, List.length_cons, List.length_nil] at hl ⊢; omega) hl3.symm
      rw [e a2, e b3]; exact this
    · have hx := hz.1.1 x (List.mem_append_right _ List.mem_cons_self)
      have hy := hz.2.1 y (List.mem_append_right _ List.mem_cons_self)
      have hp := path_eq hx hy hxy
      have ha3 : ∀ r ∈ a3, lt y r := fun r hr => by
        have := (good_lt hz.1).2 r hr
        unfold lt at *; rw [← hp]; exact this
      have hyb : Zp Z a3 (y :: b3) := zp_drop hz
      obtain ⟨z1, z2⟩ := zp_put hyb ha3
      have e : ∀ m : List Nod, Z ++ y :: m = (Z ++ [y]) ++ m := fun m => by rw [List.append_assoc]; rfl
      have ob2 := ob
      rw [okL_app, okL_cons] at ob2
      have oa2 := oa
      rw [okL_app, okL_cons] at oa2
      refine .cons gA (.changed Z a3 x y hp) ?_
      have := steps_diff l (Z ++ [y]) a3 b3 z1 (by rw [okL_app, okL_app]; exact ⟨⟨oa2.1, ob2.2.1⟩, oa2.2.2⟩) (by rw [← e]; exact ob) (by simp only [List.length_append, List.length_cons, List.length_nil] at hl ⊢; omega) hl3.symm
      rw [e a3, e b3]; exact this
theorem diffD_self : ∀ a : List Nod, diffD a a = []
  | [] => by rw [diffD]
  | x :: a => by
    rw [diffD, if_neg (by rw [cmpN_self]; omega), if_neg (by rw [cmpN_self]; omega), if_pos rfl, diffD_self a]
end Go.Proofs.YtkcpcjhjemedpaaDoor

namespace Go.Proofs.YtkcpcjhjemedpaaDoor
open Go.Sy
set_option maxRecDepth 100000
set_option linter.all false
theorem clone_ok (l : List Nod) (hl4 : l.length ≤ 100000) : FnC Tryd.prog 14 [.d (.fs 3 (l.map encN))] (.d (.fs 3 (l.map encN))) := by
  refine FnC.intro ti_ok Tryd.func14 rfl Tryd.ntmps14 Tryd.call14 rfl (Nat.le_of_ble_eq_true rfl) rfl ?_
  have hl := encs_len l
  cases l with
  | nil =>
    (repeat' ((conv => whnf); first | with_reducible refine Spl.tt ?_ | with_reducible refine Spl.ff ?_ | with_reducible refine draw_auto ti_ok mixed (by decide +kernel) ?_ | with_reducible refine LetI.i64 (by first | omega | (with_unfolding_all exact Nat.le_of_ble_eq_true rfl) | (simp only [List.length_append, List.length_cons, List.length_nil, List.length_map, chunk_length]; omega)) ?_ | with_reducible refine LetI.u64 (by omega) ?_ | with_reducible refine LetI.u8 (by omega) ?_ | with_reducible refine LetI.i64q (by omega) ?_ | with_reducible refine LetI.u64q (by omega) ?_ | with_reducible refine LetI.rem (by omega) ?_ | with_reducible refine LetN.mk ?_ | with_reducible refine at_hm (by assumption) ?_ | with_reducible refine at_hb (by assumption) ?_ | with_reducible refine at_lit (by simp only [List.length_map, List.length_cons, List.length_nil]; omega) (by with_unfolding_all exact rfl) ?_ | with_reducible refine at_natm8 (by omega) (fun x hx hu => ?_) | with_reducible refine at_nat8 (by omega) (fun x hx hu => ?_) | with_reducible refine at_bi8 (by omega) (fun x hx hu => ?_) | with_reducible refine at_natm (by omega) (fun x hx => ?_) | with_reducible refine at_intm (by omega) (fun x hx => ?_) | with_reducible refine at_nat (by omega) (fun x hx => ?_) | with_reducible refine at_bi (by omega) (fun x hx => ?_) | with_reducible refine And.intro (by first | omega | (dsimp only; omega) | (with_unfolding_all exact Nat.le_of_ble_eq_true rfl) | (simp only [List.length_append, List.length_cons, List.length_nil, List.length_map, chunk_length]; omega)) ?_ | with_reducible refine cond_tt (by first | exact rfl | exact (ble_tt (by first | omega | (dsimp only; omega))) | exact (blt_tt (by first | omega | (dsimp only; omega))) | exact band_tt rfl rfl | exact band_tt rfl (ble_tt (by first | omega | (dsimp only; omega))) | exact band_tt rfl (blt_tt (by first | omega | (dsimp only; omega))) | exact band_tt (ble_tt (by first | omega | (dsimp only; omega))) rfl | exact band_tt (ble_tt (by first | omega | (dsimp only; omega))) (ble_tt (by first | omega | (dsimp only; omega))) | exact band_tt (ble_tt (by first | omega | (dsimp only; omega))) (blt_tt (by first | omega | (dsimp only; omega))) | exact band_tt (blt_tt (by first | omega | (dsimp only; omega))) rfl | exact band_tt (blt_tt (by first | omega | (dsimp only; omega))) (ble_tt (by first | omega | (dsimp only; omega))) | exact band_tt (blt_tt (by first | omega | (dsimp only; omega))) (blt_tt (by first | omega | (dsimp only; omega)))) ?_ | with_reducible refine Both.mk ?_ ?_ | with_reducible refine NilS.ts ?_ | with_reducible refine LetE.now ?_ | with_reducible refine at_some (by with_unfolding_all exact rfl) ?_ | with_reducible refine Spl.yes (by decide +kernel) ?_ | with_reducible refine Spl.no (by decide +kernel) ?_ | with_reducible refine Spl.yes (by (first | with_reducible assumption | with_unfolding_all exact rfl | exact dtt (by omega) | exact ett (by omega) | exact ntt (by omega) | exact seq_tt (by with_unfolding_all assumption) | exact sne_tt (by with_unfolding_all assumption))) ?_ | with_reducible refine Spl.no (by (first | with_reducible assumption | with_unfolding_all exact rfl | exact dff (by omega) | exact eff (by omega) | exact nff (by omega) | exact seq_ff (by with_unfolding_all assumption) | exact sne_ff (by with_unfolding_all assumption))) ?_ | with_reducible refine Spl.pd (fun h => ?_) (fun h => ?_) | with_reducible refine Spl.peq (fun h => ?_) (fun h => ?_) | with_reducible refine Spl.pne (fun h => ?_) (fun h => ?_) | with_reducible refine Spl.seq (fun h => ?_) (fun h => ?_) | with_reducible refine Spl.sne (fun h => ?_) (fun h => ?_) | with_reducible refine Spl.nt ?_ | with_reducible refine Spl.mk (fun h => ?_) (fun h => ?_)))
    all_goals rfl
  | cons x l =>
    have hl5 : l.length + 1 ≤ 100000 := by simpa using hl4
    (repeat' ((conv => whnf); first | with_reducible refine Spl.tt ?_ | with_reducible refine Spl.ff ?_ | with_reducible refine draw_auto ti_ok mixed (by decide +kernel) ?_ | with_reducible refine LetI.i64 (by first | omega | (with_unfolding_all exact Nat.le_of_ble_eq_true rfl) | (simp only [List.length_append, List.length_cons, List.length_nil, List.length_map, chunk_length]; omega)) ?_ | with_reducible refine LetI.u64 (by omega) ?_ | with_reducible refine LetI.u8 (by omega) ?_ | with_reducible refine LetI.i64q (by omega) ?_ | with_reducible refine LetI.u64q (by omega) ?_ | with_reducible refine LetI.rem (by omega) ?_ | with_reducible refine LetN.mk ?_ | with_reducible refine at_hm (by assumption) ?_ | with_reducible refine at_hb (by assumption) ?_ | with_reducible refine at_lit (by simp only [List.length_map, List.length_cons, List.length_nil]; omega) (by with_unfolding_all exact rfl) ?_ | with_reducible refine at_natm8 (by omega) (fun x hx hu => ?_) | with_reducible refine at_nat8 (by omega) (fun x hx hu => ?_) | with_reducible refine at_bi8 (by omega) (fun x hx hu => ?_) | with_reducible refine at_natm (by omega) (fun x hx => ?_) | with_reducible refine at_intm (by omega) (fun x hx => ?_) | with_reducible refine at_nat (by omega) (fun x hx => ?_) | with_reducible refine at_bi (by omega) (fun x hx => ?_) | with_reducible refine And.intro (by first | omega | (dsimp only; omega) | (with_unfolding_all exact Nat.le_of_ble_eq_true rfl) | (simp only [List.length_append, List.length_cons, List.length_nil, List.length_map, chunk_length]; omega)) ?_ | with_reducible refine cond_tt (by first | exact rfl | exact (ble_tt (by first | omega | (dsimp only; omega))) | exact (blt_tt (by first | omega | (dsimp only; omega))) | exact band_tt rfl rfl | exact band_tt rfl (ble_tt (by first | omega | (dsimp only; omega))) | exact band_tt rfl (blt_tt (by first | omega | (dsimp only; omega))) | exact band_tt (ble_tt (by first | omega | (dsimp only; omega))) rfl | exact band_tt (ble_tt (by first | omega | (dsimp only; omega))) (ble_tt (by first | omega | (dsimp only; omega))) | exact band_tt (ble_tt (by first | omega | (dsimp only; omega))) (blt_tt (by first | omega | (dsimp only; omega))) | exact band_tt (blt_tt (by first | omega | (dsimp only; omega))) rfl | exact band_tt (blt_tt (by first | omega | (dsimp only; omega))) (ble_tt (by first | omega | (dsimp only; omega))) | exact band_tt (blt_tt (by first | omega | (dsimp only; omega))) (blt_tt (by first | omega | (dsimp only; omega)))) ?_ | with_reducible refine Both.mk ?_ ?_ | with_reducible refine NilS.ts ?_ | with_reducible refine LetE.now ?_ | with_reducible refine at_some (by with_unfolding_all exact rfl) ?_ | with_reducible refine Spl.yes (by decide +kernel) ?_ | with_reducible refine Spl.no (by decide +kernel) ?_ | with_reducible refine Spl.yes (by (first | with_reducible assumption | with_unfolding_all exact rfl | exact dtt (by omega) | exact ett (by omega) | exact ntt (by omega) | exact seq_tt (by with_unfolding_all assumption) | exact sne_tt (by with_unfolding_all assumption))) ?_ | with_reducible refine Spl.no (by (first | with_reducible assumption | with_unfolding_all exact rfl | exact dff (by omega) | exact eff (by omega) | exact nff (by omega) | exact seq_ff (by with_unfolding_all assumption) | exact sne_ff (by with_unfolding_all assumption))) ?_ | with_reducible refine Spl.pd (fun h => ?_) (fun h => ?_) | with_reducible refine Spl.peq (fun h => ?_) (fun h => ?_) | with_reducible refine Spl.pne (fun h => ?_) (fun h => ?_) | with_reducible refine Spl.seq (fun h => ?_) (fun h => ?_) | with_reducible refine Spl.sne (fun h => ?_) (fun h => ?_) | with_reducible refine Spl.nt ?_ | with_reducible refine Spl.mk (fun h => ?_) (fun h => ?_)))
    all_goals first | rfl | (refine fs_eq ?_; simp; done)
def pI (b : List Nod) (L : List Chg) : Nat × List Nod → Prop
  | (k, a) => k ≤ L.length ∧ Steps a (L.drop k) b
def pA (L : List Chg) : Nat × List Nod → S
  | (k, a) => ⟨[(14, .d (.fs 7 (L.map encG))), (15, .d (.it .i64 L.length)), (16, .d (.it .i64 k)), (6, .ptr 1 0)], [(1, .cells 1 [.d (.fs 3 (a.map encN))])], 2⟩
def pM (L : List Chg) : Nat × List Nod → Nat
  | (k, _) => L.length - k
theorem map_app2 (Z a : List Nod) (x : Nod) : (Z ++ x :: a).map encN = Z.map encN ++ encN x :: a.map encN := by simp
theorem n0 {Z R : List Nod} : Z.map encN ++ R.map encN = (Z ++ R).map encN := (List.map_append ..).symm
section
variable {α : Type}
theorem n1 (A B ext : List α) (z : α) (i k r : Nat) (hi : i = A.length) (hk : k = r) : A ++ List.replicate r z = (A ++ B ++ ext).take i ++ List.replicate k z := by
  subst hi hk; rw [List.append_assoc, List.take_left]
theorem n2 (A C : List α) (v z : α) (i i2 q : Nat) (hi : i = A.length) (h2 : i2 = 0) (hq : q = 1) : A ++ v :: C = (A ++ z :: C).take i ++ ([v].drop i2).take q ++ (A ++ z :: C).drop (i + q) := by
  subst hi h2 hq
  rw [List.take_left, List.drop_append]
  simp
theorem n3 (A B ext C : List α) (v : α) (i j q : Nat) (hi : i = A.length + 1) (hj : j = A.length) (hq : q = B.length) (hC : C.length = B.length) : A ++ v :: B = (A ++ v :: C).take i ++ ((A ++ B ++ ext).drop j).take q ++ (A ++ v :: C).drop (i + q) := by
  subst hi hj hq
  rw [List.append_assoc A B ext, List.drop_left, List.take_left]
  have e1 : (A ++ v :: C).take (A.length + 1) = A ++ [v] := by rw [List.take_append]; simp; exact List.take_of_length_le (by omega)
  have e2 : (A ++ v :: C).drop (A.length + 1 + B.length) = [] := List.drop_eq_nil_of_le (by simp; omega)
  rw [e1, e2]; simp
theorem a1 (A B : List α) (v : α) (i j k : Nat) (hi : i = A.length) (hj : j = 0) (hk : k = 1) (hB : B.length = 0) : A ++ [v] = (A ++ B).take i ++ ([v].drop j).take k := by
  subst hi hj hk
  obtain rfl := List.length_eq_zero_iff.1 hB
  simp
theorem m1 (A B ext : List α) (i j q : Nat) (hi : i = A.length + 1) (hj : j = A.length) (hq : q = B.length) (hB : 0 < B.length) : A ++ B.take 1 ++ B ++ ext.drop 1 = (A ++ B ++ ext).take i ++ ((A ++ B ++ ext).drop j).take q ++ (A ++ B ++ ext).drop (i + q) := by
  subst hi hj hq
  cases B with
  | nil => cases hB
  | cons b B =>
    have e0 : A ++ b :: B ++ ext = A ++ b :: (B ++ ext) := by simp
    have e1 : (A ++ b :: B ++ ext).take (A.length + 1) = A ++ [b] := by rw [e0, List.take_append]; simp; exact List.take_of_length_le (by omega)
    have e2 : (A ++ b :: B ++ ext).drop A.length = b :: B ++ ext := by rw [List.append_assoc, List.drop_left]
    have e3 : (A ++ b :: B ++ ext).drop (A.length + 1 + (b :: B).length) = ext.drop 1 := by
      rw [← List.drop_drop, show A.length + 1 = A.length + 1 from rfl, ← List.drop_drop, e2]
      simp only [List.length_cons, List.cons_append, List.drop_succ_cons, List.drop_zero]
      rw [List.drop_append, List.drop_eq_nil_of_le (by omega)]
      simp
    rw [e1, e2, e3, List.take_left]; simp
theorem m2 (A B C : List α) (v : α) (i i2 q : Nat) (hi : i = A.length) (h2 : i2 = 0) (hq : q = 1) (hB : 0 < B.length) : A ++ v :: (B ++ C) = (A ++ B.take 1 ++ B ++ C).take i ++ ([v].drop i2).take q ++ (A ++ B.take 1 ++ B ++ C).drop (i + q) := by
  cases B with
  | nil => cases hB
  | cons b B =>
    have := n2 A (b :: B ++ C) v b i i2 q hi h2 hq
    simpa using this
theorem finN (A B ext : List α) (v z : α) (a r q : Nat) (ha : A.length = a) (hr : B.length = r) (hq : q = r + 1) :
    (((A ++ B ++ ext).take a ++ List.replicate q z).take a ++ (List.drop 0 [v]).take 1 ++ ((A ++ B ++ ext).take a ++ List.replicate q z).drop (a + 1)).take (a + 1) ++ ((A ++ B ++ ext).drop a).take r ++
      (((A ++ B ++ ext).take a ++ List.replicate q z).take a ++ (List.drop 0 [v]).take 1 ++ ((A ++ B ++ ext).take a ++ List.replicate q z).drop (a + 1)).drop (a + 1 + r) = A ++ v :: (B ++ []) := by
  subst ha hr
  rw [← n1 A B ext z A.length q (B.length + 1) rfl hq, List.replicate_succ, ← n2 A (List.replicate B.length z) v z A.length 0 1 rfl rfl rfl, ← n3 A B ext (List.replicate B.length z) v _ _ _ rfl rfl rfl (by simp), List.append_nil]
theorem finM (A B ext : List α) (v : α) (a r : Nat) (ha : A.length = a) (hr : B.length = r) (h0 : 0 < r) :
    ((A ++ B ++ ext).take (a + 1) ++ ((A ++ B ++ ext).drop a).take r ++ (A ++ B ++ ext).drop (a + 1 + r)).take a ++ (List.drop 0 [v]).take 1 ++ ((A ++ B ++ ext).take (a + 1) ++ ((A ++ B ++ ext).drop a).take r ++ (A ++ B ++ ext).drop (a + 1 + r)).drop (a + 1) = A ++ v :: (B ++ ext.drop 1) := by
  subst ha hr
  rw [← m1 A B ext _ _ _ rfl rfl rfl h0, ← m2 A B (ext.drop 1) v A.length 0 1 rfl rfl rfl h0]
theorem finA (A B : List α) (v : α) (a : Nat) (ha : A.length = a) (hr : B.length = 0) : (A ++ B).take a ++ (List.drop 0 [v]).take 1 = A ++ v :: (B ++ []) := by
  subst ha
  obtain rfl := List.length_eq_zero_iff.1 hr
  simp
theorem fin_le {A B C M : List α} {v : α} {n : Nat} (h : M = A ++ v :: (B ++ C)) (hn : n = A.length + B.length + 1) : 0 + n ≤ M.length := by
  subst h hn; simp; omega
theorem fin_eq {A B C M L : List α} {v : α} {n : Nat} (h : M = A ++ v :: (B ++ C)) (hL : L = A ++ v :: B) (hn : n = A.length + B.length + 1) : L = (M.drop 0).take n := by
  subst h hL hn
  have e : A ++ v :: (B ++ C) = (A ++ v :: B) ++ C := by simp
  rw [List.drop_zero, e, show A.length + B.length + 1 = (A ++ v :: B).length by simp; omega, List.take_left]
end
def loopC : Code → Option Code
  | .loop c => some c
  | .seq a b => match loopC a with | some c => some c | none => loopC b
  | .cond _ a b => match loopC a with | some c => some c | none => loopC b
  | .block _ c => loopC c
  | .scope c => loopC c
  | _ => none
noncomputable def pBody : Code := match loopC (bd Tryd.f8) with | some c => c | none => .skip
theorem _root_.Go.Sy.NilS.id {A B : Prop} (h : NilS A B) : NilS A B := h
theorem and_id {A B : Prop} (h : A ∧ B) : A ∧ B := h
theorem _root_.Go.Sy.LetN.id {e : Nat} {K : Nat → Prop} (h : LetN e K) : LetN e K := h
theorem _root_.Go.Sy.LetE.id {e : List (List D)} {K : List (List D) → Prop} (h : LetE e K) : LetE e K := h
theorem _root_.Go.Sy.CallE.id {A B : Prop} (h : CallE A B) : CallE A B := h
theorem _root_.Go.Sy.CallP.id {P : Program} {f : Nat} {l : List AV} {K : AV → Prop} (h : CallP P f l K) : CallP P f l K := h
theorem _root_.Go.Sy.CallI.id {P : Program} {N : Nat} {o : Oper} {σ : S} {f : Nat} {l : List AV} {K : S → Prop} (h : CallI P N o σ f l K) : CallI P N o σ f l K := h
theorem and_nil {l : List (List D)} {B : Prop} (h : l = []) (hb : B) : l = [] ∧ B := ⟨h, hb⟩
theorem ovl_hf : ∀ (u v r : Value) (w w' : World), (Extern.SlicesOverlaps.overlaps #[22, 22] #[4] #[u, v]).run Tryd.prog w = .ok r w' → (callFunc 54 #[u, v]).run Tryd.prog w = .ok (.value r) w' := fun u v r w w' h => by
  rw [run_callFunc_extern Tryd.func54 (by kernel_rfl) (by kernel_rfl) (by kernel_rfl) (e := Extern.SlicesOverlaps.overlaps #[22, 22] #[4]) (by kernel_rfl), h]; rfl
theorem ovl_sz : ∀ w, (Go.sizeOf 33).run Tryd.prog w = .ok 3 w := fun w => by rfl
theorem ovl_S : Tryd.prog.underlying 22 = some (.slice 33) := by kernel_rfl
set_option maxHeartbeats 32000000 in
theorem round_gone (b : List Nod) (L : List Chg) (Q : Exit → S → Prop) (k : Nat) (X : Nat × List Nod) (hL : L.length ≤ 1000) (hkl : k < L.length) (hM : pM L X = L.length - k) (Z R : List Nod) (x : Nod) (hx : L[k]? = some ⟨1, x, nod0⟩) (gw : Gd (Z ++ x :: R)) (h3 : Steps (Z ++ R) (L.drop (k + 1)) b) :
    vc Tryd.prog ti 25 pBody (RoundW 25 (pI b L) (pA L) (pM L) Q X) ⟨[(14, .d (.fs 7 (L.map encG))), (15, .d (.it .i64 L.length)), (16, .d (.it .i64 k)), (6, .ptr 1 0)], [(1, .cells 1 [.d (.fs 3 ((Z ++ x :: R).map encN))])], 2⟩ := by
  have gd := h3.good
  have hlg := encGs_len L
  have hix := nindex_ok (Z ++ x :: R) x (by have := gw.2.2; omega)
  rw [idx_app (zp_notin (b := R) ⟨gw.1, gd.1⟩)] at hix
  have hlz := encs_len (Z ++ x :: R)
  have hlz2 : (Z ++ x :: R).length = Z.length + (R.length + 1) := by simp
  have hlz3 := gw.2.2
  (repeat' ((conv => whnf); first | with_reducible refine Spl.tt ?_ | with_reducible refine Spl.ff ?_ | with_reducible refine draw_hoist ti_ok mixed 0 (by decide +kernel) ?_ | with_reducible refine at_known hx ?_ | with_reducible refine CallI.inl ti_ok i15 rfl ?_ | with_reducible refine CallI.inl ti_ok i25 rfl ?_ | refine CallE.con ⟨_, hix, ?_⟩ | with_reducible refine And.intro (by simp only [List.length_append, List.length_cons, List.length_nil, List.length_map, List.length_take, List.length_drop, chunk_length]; omega) ?_ | with_reducible refine CallE.inl ?_ | with_reducible refine draw_auto ti_ok mixed (by decide +kernel) ?_ | with_reducible refine LetI.i64 (by first | omega | (with_unfolding_all exact Nat.le_of_ble_eq_true rfl) | (simp only [List.length_append, List.length_cons, List.length_nil, List.length_map, chunk_length]; omega)) ?_ | with_reducible refine LetI.u64 (by omega) ?_ | with_reducible refine LetI.u8 (by omega) ?_ | with_reducible refine LetI.i64q (by omega) ?_ | with_reducible refine LetI.u64q (by omega) ?_ | with_reducible refine LetI.rem (by omega) ?_ | with_reducible refine LetN.mk ?_ | with_reducible refine at_hm (by assumption) ?_ | with_reducible refine at_hb (by assumption) ?_ | with_reducible refine at_lit (by simp only [List.length_map, List.length_cons, List.length_nil]; omega) (by with_unfolding_all exact rfl) ?_ | with_reducible refine at_natm8 (by omega) (fun x hx hu => ?_) | with_reducible refine at_nat8 (by omega) (fun x hx hu => ?_) | with_reducible refine at_bi8 (by omega) (fun x hx hu => ?_) | with_reducible refine at_natm (by omega) (fun x hx => ?_) | with_reducible refine at_intm (by omega) (fun x hx => ?_) | with_reducible refine at_nat (by omega) (fun x hx => ?_) | with_reducible refine at_bi (by omega) (fun x hx => ?_) | with_reducible refine And.intro (by first | omega | (dsimp only; omega) | (with_unfolding_all exact Nat.le_of_ble_eq_true rfl) | (simp only [List.length_append, List.length_cons, List.length_nil, List.length_map, chunk_length]; omega)) ?_ | with_reducible refine cond_tt (by first | exact rfl | exact (ble_tt (by first | omega | (dsimp only; omega))) | exact (blt_tt (by first | omega | (dsimp only; omega))) | exact band_tt rfl rfl | exact band_tt rfl (ble_tt (by first | omega | (dsimp only; omega))) | exact band_tt rfl (blt_tt (by first | omega | (dsimp only; omega))) | exact band_tt (ble_tt (by first | omega | (dsimp only; omega))) rfl | exact band_tt (ble_tt (by first | omega | (dsimp only; omega))) (ble_tt (by first | omega | (dsimp only; omega))) | exact band_tt (ble_tt (by first | omega | (dsimp only; omega))) (blt_tt (by first | omega | (dsimp only; omega))) | exact band_tt (blt_tt (by first | omega | (dsimp only; omega))) rfl | exact band_tt (blt_tt (by first | omega | (dsimp only; omega))) (ble_tt (by first | omega | (dsimp only; omega))) | exact band_tt (blt_tt (by first | omega | (dsimp only; omega))) (blt_tt (by first | omega | (dsimp only; omega)))) ?_ | with_reducible refine Both.mk ?_ ?_ | with_reducible refine NilS.ts ?_ | with_reducible refine LetE.now ?_ | with_reducible refine at_some (by with_unfolding_all exact rfl) ?_ | with_reducible refine Spl.yes (by decide +kernel) ?_ | with_reducible refine Spl.no (by decide +kernel) ?_ | with_reducible refine Spl.yes (by (first | with_reducible assumption | with_unfolding_all exact rfl | exact dtt (by omega) | exact ett (by omega) | exact ntt (by omega) | exact seq_tt (by with_unfolding_all assumption) | exact sne_tt (by with_unfolding_all assumption))) ?_ | with_reducible refine Spl.no (by (first | with_reducible assumption | with_unfolding_all exact rfl | exact dff (by omega) | exact eff (by omega) | exact nff (by omega) | exact seq_ff (by with_unfolding_all assumption) | exact sne_ff (by with_unfolding_all assumption))) ?_ | with_reducible refine Spl.pd (fun h => ?_) (fun h => ?_) | with_reducible refine Spl.peq (fun h => ?_) (fun h => ?_) | with_reducible refine Spl.pne (fun h => ?_) (fun h => ?_) | with_reducible refine Spl.seq (fun h => ?_) (fun h => ?_) | with_reducible refine Spl.sne (fun h => ?_) (fun h => ?_) | with_reducible refine Spl.nt ?_ | with_reducible refine Spl.mk (fun h => ?_) (fun h => ?_)))
  refine ⟨(k + 1, Z ++ R), ⟨by omega, h3⟩, by rw [hM]; show L.length - (k + 1) < _; omega, ?_⟩
  refine Wk.vwL (And.intro (Vw.same _) (And.intro (Vw.same _) (And.intro (Vw.eq (it_eq ?_)) (And.intro (Vw.same _) trivial)))) (And.intro (VwO.cell _ _ (Vw.ts' ?_) rfl) trivial) rfl
  · omega
  · rw [map_app2, List.map_append]
    have e1 : (((0 + Z.length : Nat) : Int)).toNat = (Z.map encN).length := by simp
    have e2 : (((0 + Z.length : Nat) : Int) + 1).toNat = (Z.map encN).length + 1 := by simp
    rw [e1, e2, List.take_left, List.drop_append]
    simp
end Go.Proofs.YtkcpcjhjemedpaaDoor
