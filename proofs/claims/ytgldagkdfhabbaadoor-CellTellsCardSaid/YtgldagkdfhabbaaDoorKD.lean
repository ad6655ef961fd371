/- Contracts of the functions that the law reaches, and the law. Conditions: none. -/
import Derived.Test.YtgldagkdfhabbaaDoorKC
import Derived.Test.YtgldagkdfhabbaaDoorSC
import Derived.Test.YtgldagkdfhabbaaDoorCards
import Derived.Test.YtgldagkdfhabbaaDoorTie
set_option linter.all false
namespace Go.Proofs.YtgldagkdfhabbaaDoor
open Go.Sy Go.ChangeShapes Go.WideShapes Go.ChangeAt Go.RowKit
set_option maxRecDepth 100000

def plainT : List Nat := [2, 3, 4, 9, 22, 23, 25, 27, 28]
theorem closed : closedB ti plainT = true := by decide +kernel
theorem shp_cel {n : Nat} {ds : List D} (h : Shp ti n 27 ds) : ∃ c : Cel, ds = encC c ∧ 0 ≤ c.k := by
  match n, h with
  | 1, h => obtain ⟨_, _, _, h, _⟩ := h; exact h.elim
  | 2, h => obtain ⟨_, _, rfl, ⟨a, rfl, _⟩, _, _, rfl, ⟨_, _, _, h, _⟩, _⟩ := h; exact h.elim
  | n + 3, h =>
    obtain ⟨_, _, rfl, ⟨a, rfl, _⟩, _, _, rfl, ⟨_, _, rfl, ⟨p, rfl, _⟩, _, _, rfl, ⟨k, rfl, hk, _⟩, _, _, rfl, ⟨v, rfl, _⟩, _, _, rfl, ⟨e, rfl, _⟩, rfl⟩, _, _, rfl, ⟨l, rfl, _⟩, rfl⟩ := h
    exact ⟨⟨a, p, k, v, e, l⟩, rfl, hk⟩
theorem shp_cels {n : Nat} : ∀ {es : List (List D)}, (∀ x ∈ es, Shp ti n 27 x) → ∃ l : List Cel, es = l.map encC
  | [], _ => ⟨[], rfl⟩
  | x :: es, h => by
    obtain ⟨c, rfl, _⟩ := shp_cel (h x List.mem_cons_self)
    obtain ⟨l, rfl⟩ := shp_cels (fun y hy => h y (List.mem_cons_of_mem _ hy))
    exact ⟨c :: l, rfl⟩
theorem own : ownKnob Tryd.prog.godebug = none := by kernel_rfl
theorem laidOut : laidOutB Tryd.prog = true := by kernel_rfl

namespace tells
/-- For every argument and every world. -/
theorem contract (H : Type) (enc : TypeId × Value → H) (W : World) (base : Nat) (args : Array Value) (ds gs : List (DataW H)) (before : List MemPlace)
    (hval : ∀ (j : Nat) t v, Tryd.f3.params[j]? = some t → args[j]? = some v → Value.okWide Tryd.prog W .any base t v)
    (hW : DataW.Whole enc Tryd.prog Tryd.f3.params.toList Rows.cellTellsSpec.vars false W args.toList ds gs before) :
    Calls Tryd.prog 3 args W fun e W' => ∃ v, e = .returned v ∧ Rows.cellTellsSpec.post enc Tryd.prog Tryd.f3 false true false false W args v W' := by
  have hW' := hW
  obtain ⟨p, q, hA, hV, rfl, _, _⟩ := hW
  have hA' : DataW.TrodAll enc Tryd.prog W 0 (fun _ => true) true [27, 9, 28] args.toList ds p := hA
  obtain ⟨v0, v1, v2, d0, d1, d2, p0, p1, p2, rfl, rfl, rfl, h0, h1, h2⟩ := trodAll_three hA'
  obtain ⟨rfl, rfl⟩ := trodVars_none hV
  obtain ⟨n0, ds0, s0, a0⟩ := arg_agg ti_ok closed (t := 27) (by decide) (ty := _) rfl rfl (hval 0 27 v0 rfl rfl) h0
  obtain ⟨n1, x1, s1, a1⟩ := arg_one ti_ok closed (t := 9) (by decide) (ty := _) rfl rfl (hval 1 9 v1 rfl rfl) h1
  obtain ⟨n2, x2, s2, a2⟩ := arg_one ti_ok closed (t := 28) (by decide) (ty := _) rfl rfl (hval 2 28 v2 rfl rfl) h2
  obtain ⟨c, rfl, hk⟩ := shp_cel s0
  obtain ⟨s, rfl⟩ : ∃ s, x1 = .st s := by
    match n1, s1 with
    | n + 1, s1 => obtain ⟨l, hl, _⟩ := s1; exact ⟨l, by simpa using hl⟩
  obtain ⟨l, rfl⟩ : ∃ l : List Cel, x2 = .fs 6 (l.map encC) := by
    match n2, s2 with
    | n + 1, s2 =>
      obtain ⟨es, hl, _, he⟩ := s2
      obtain ⟨l, rfl⟩ := shp_cels he
      exact ⟨l, by simpa using hl⟩
  refine (FnC.enter (cellTells_ok c hk s l) (Tryd.call3 _ _) rfl ?_).mono ?_
  · intro j hj
    match j, hj with
    | 0, _ => exact a0
    | 1, _ => exact a1
    | 2, _ => exact a2
  · rintro e W' ⟨rfl, hB⟩
    exact ⟨_, rfl, law_post hW' rfl rfl rfl rfl rfl Tryd.underlying4 laidOut (by decide +kernel) hB⟩

noncomputable def wit : Array Value := #[.agg #[.int .i64 0, .int .i64 0, .int .u64 0, .int .i64 0, .int .i64 0, .int .i64 0], .string ⟨#[]⟩, .slice none 0 0]
noncomputable def laidWorld (os : Os) : World :=
  { World.holding Tryd.prog os ⟨#[], #[], []⟩ with heap := laidHeap (World.holding Tryd.prog os ⟨#[], #[], []⟩).heap [(2, Rows.laid_unicode_utf8_acceptRanges), (1, Rows.laid_unicode_utf8_first)] }
theorem laid_met (os : Os) : laidMet Tryd.prog Rows.cellTellsRow.laid ((laidWorld os).forCall (fun _ _ => 0) ⟨#[], wit, []⟩).memory :=
  laidMet_of_run' 8 (by kernel_rfl) (by kernel_rfl)
theorem reads (os : Os) {H : Type} (enc : TypeId × Value → H) : ∃ places, DataW.whole enc Tryd.prog ((laidWorld os).forCall (fun _ _ => 0) ⟨#[], wit, []⟩).memory Tryd.f3.params.toList Rows.cellTellsSpec.vars false wit.toList 8 = some ([.agg [.lit (.int .i64 0), .agg [.lit (.int .i64 0), .lit (.int .u64 0), .lit (.int .i64 0), .lit (.int .i64 0)], .lit (.int .i64 0)], .lit (.string []), .nil], [], places) :=
  ⟨[], by kernel_rfl⟩

theorem lifted (os : Os) (started : os.Started) (H : Type) (enc : TypeId × Value → H) (F : Stop.Interp) :
    ReturnsInHanded {} Tryd.checked os 3 .any ((OpenSpec.ofChange Rows.cellTellsSpec).preRow enc Tryd.prog Tryd.f3 Rows.cellTellsRow.domain false Rows.cellTellsRow.laid) (((OpenSpec.ofChange Rows.cellTellsSpec).at F).post enc Tryd.prog Tryd.f3 false true false false) := by
  obtain ⟨places, hx⟩ := reads os enc
  refine returnsInHanded_of_row (C := Tryd.checked) (s := OpenSpec.ofChange Rows.cellTellsSpec) own started (by kernel_rfl) Tryd.func3
    (witness_row_at (enc := enc) (C := Tryd.checked) false (laidWorld os) wit rfl (by kernel_rfl) (by kernel_rfl) (by kernel_rfl)
      (OpenSpec.preRow_of_cond 8 hx (by kernel_rfl) (fun k hk => by cases hk) (by kernel_rfl) (laid_met os))) ?_
  intro W base args ds gs before hval hW _ _ _ _ _ _
  exact contract H enc W base args ds gs before hval hW

theorem said : Rows.CellTellsSaid :=
  OpenClaim.holds_of_cond 3 Tryd.f3 rfl rfl rfl rfl rfl rfl rfl ⟨rfl, rfl, rfl, rfl, rfl⟩ rfl rfl rfl rfl rfl (by kernel_rfl) Tryd.func3 (by kernel_rfl)
    (of_decide_eq_true (by kernel_rfl)) (by unfold Func.isWrapper; first | (rw [if_pos (by decide +kernel)]; kernel_rfl) | (rw [if_neg (by decide +kernel)]; exact ⟨rfl, rfl⟩))
    (fun os started H enc _ F => by rw [OpenClaim.pre_eq_preRow]; exact lifted os started H enc F)

theorem plain (f : FuncId) (fn : Func) (hf : Tryd.pinned.checked.prog.funcNamed "flotsam/flotsamlaw30.CellTells" = some f) (hfn : Tryd.pinned.checked.prog.funcs[f]? = some fn) :
    false = Tryd.pinned.checked.prog.looks [] ∧ ∀ (j : Nat) t, fn.params[j]? = some t → Tryd.pinned.checked.prog.wantsStandIn t = false := by
  obtain rfl : f = 3 := Option.some.inj ((show Tryd.prog.funcNamed "flotsam/flotsamlaw30.CellTells" = some 3 by kernel_rfl).symm.trans hf) |>.symm
  obtain rfl : fn = Tryd.f3 := (Option.some.inj (Tryd.func3.symm.trans hfn)).symm
  refine ⟨by kernel_rfl, fun j t ht => ?_⟩
  have hall : ∀ t ∈ Tryd.f3.params, Tryd.prog.wantsStandIn t = false := by decide +kernel
  exact hall t (Array.mem_of_getElem? ht)

/-- The card. -/
theorem card : Rows.CellTellsCardSaid :=
  Claim7.holds_tied_plain_at .later [] _ _ _ _ said (fun _ h => by cases h) (by kernel_rfl) (fun _ h => by cases h) cellTells_row_tie rfl ⟨rfl, rfl⟩ (by kernel_rfl) rfl plain (by kernel_rfl)
end tells
end Go.Proofs.YtgldagkdfhabbaaDoor
