/- Contracts of the functions that the law reaches, and the law. Conditions: none. -/
import Derived.Test.YtkcpcjhjemedpaaGreatDoorKE
import Derived.Test.YtkcpcjhjemedpaaGreatDoorSD
import Derived.Test.YtkcpcjhjemedpaaGreatDoorCards
import Derived.Test.YtkcpcjhjemedpaaGreatDoorTie
set_option linter.all false
namespace Go.Proofs.YtkcpcjhjemedpaaGreatDoor
open Go.Sy Go.ChangeShapes Go.WideShapes Go.ChangeAt Go.RowKit
set_option maxRecDepth 100000

def plainT : List Nat := [4, 9, 22, 37]
theorem closed : closedB ti plainT = true := by decide +kernel
theorem shp_nod {n : Nat} {ds : List D} (h : Shp ti n 37 ds) : ∃ x : Nod, ds = encN x := by
  match n, h with
  | 1, h => obtain ⟨_, _, _, h, _⟩ := h; exact h.elim
  | n + 2, h =>
    obtain ⟨_, _, rfl, ⟨p, rfl, _⟩, _, _, rfl, ⟨d, rfl⟩, _, _, rfl, ⟨x, rfl, _⟩, rfl⟩ := h
    exact ⟨⟨p, d, x⟩, rfl⟩
theorem shp_nods {n : Nat} : ∀ {es : List (List D)}, (∀ x ∈ es, Shp ti n 37 x) → ∃ l : List Nod, es = l.map encN
  | [], _ => ⟨[], rfl⟩
  | x :: es, h => by
    obtain ⟨c, rfl⟩ := shp_nod (h x List.mem_cons_self)
    obtain ⟨l, rfl⟩ := shp_nods (fun y hy => h y (List.mem_cons_of_mem _ hy))
    exact ⟨c :: l, rfl⟩
theorem shp_list {n : Nat} {x : D} (h : Shp ti n 22 [x]) : ∃ l : List Nod, x = .fs 3 (l.map encN) := by
  match n, h with
  | n + 1, h =>
    obtain ⟨es, hl, _, he⟩ := h
    obtain ⟨l, rfl⟩ := shp_nods he
    exact ⟨l, by simpa using hl⟩
theorem own : ownKnob Tryz.prog.godebug = none := by kernel_rfl
theorem laidOut : laidOutB Tryz.prog = true := by kernel_rfl

namespace tells
/-- For every argument and every world. -/
theorem contract (H : Type) (enc : TypeId × Value → H) (W : World) (base : Nat) (args : Array Value) (ds gs : List (DataW H)) (before : List MemPlace)
    (hval : ∀ (j : Nat) t v, Tryz.f3.params[j]? = some t → args[j]? = some v → Value.okWide Tryz.prog W .any base t v)
    (hW : DataW.Whole enc Tryz.prog Tryz.f3.params.toList Rows.diffTellsSpec.vars false W args.toList ds gs before) :
    Calls Tryz.prog 3 args W fun e W' => ∃ v, e = .returned v ∧ Rows.diffTellsSpec.post enc Tryz.prog Tryz.f3 false true false false W args v W' := by
  have hW' := hW
  obtain ⟨p, q, hA, hV, rfl, _, _⟩ := hW
  have hA' : DataW.TrodAll enc Tryz.prog W 0 (fun _ => true) true [22, 22] args.toList ds p := hA
  obtain ⟨v0, v1, d0, d1, p0, p1, rfl, rfl, _, h0, h1⟩ := trodAll_two hA'
  obtain ⟨rfl, rfl⟩ := trodVars_none hV
  obtain ⟨n0, x0, s0, a0⟩ := arg_one ti_ok closed (t := 22) (by decide) (ty := _) rfl rfl (hval 0 22 v0 rfl rfl) h0
  obtain ⟨n1, x1, s1, a1⟩ := arg_one ti_ok closed (t := 22) (by decide) (ty := _) rfl rfl (hval 1 22 v1 rfl rfl) h1
  obtain ⟨a, rfl⟩ := shp_list s0
  obtain ⟨b, rfl⟩ := shp_list s1
  refine (FnC.enter (law_ok a b) (Tryz.call3 _ _) rfl ?_).mono ?_
  · intro j hj
    match j, hj with
    | 0, _ => exact a0
    | 1, _ => exact a1
  · rintro e W' ⟨rfl, hB⟩
    exact ⟨_, rfl, law_post hW' rfl rfl rfl rfl rfl Tryz.underlying4 laidOut (by decide +kernel) hB⟩

noncomputable def wit : Array Value := #[.slice none 0 0, .slice none 0 0]
noncomputable def laidWorld (os : Os) : World :=
  { World.holding Tryz.prog os ⟨#[], #[], []⟩ with heap := laidHeap (World.holding Tryz.prog os ⟨#[], #[], []⟩).heap [(2, Rows.laid_unicode_utf8_acceptRanges), (1, Rows.laid_unicode_utf8_first)] }
theorem laid_met (os : Os) : laidMet Tryz.prog Rows.diffTellsRow.laid ((laidWorld os).forCall (fun _ _ => 0) ⟨#[], wit, []⟩).memory :=
  laidMet_of_run' 8 (by kernel_rfl) (by kernel_rfl)
theorem reads (os : Os) {H : Type} (enc : TypeId × Value → H) : ∃ places, DataW.whole enc Tryz.prog ((laidWorld os).forCall (fun _ _ => 0) ⟨#[], wit, []⟩).memory Tryz.f3.params.toList Rows.diffTellsSpec.vars false wit.toList 8 = some ([.nil, .nil], [], places) :=
  ⟨[], by kernel_rfl⟩

theorem lifted (os : Os) (started : os.Started) (H : Type) (enc : TypeId × Value → H) (F : Stop.Interp) :
    ReturnsInHanded {} Tryz.checked os 3 .any ((OpenSpec.ofChange Rows.diffTellsSpec).preRow enc Tryz.prog Tryz.f3 Rows.diffTellsRow.domain false Rows.diffTellsRow.laid) (((OpenSpec.ofChange Rows.diffTellsSpec).at F).post enc Tryz.prog Tryz.f3 false true false false) := by
  obtain ⟨places, hx⟩ := reads os enc
  refine returnsInHanded_of_row (C := Tryz.checked) (s := OpenSpec.ofChange Rows.diffTellsSpec) own started (by kernel_rfl) Tryz.func3
    (witness_row_at (enc := enc) (C := Tryz.checked) false (laidWorld os) wit rfl (by kernel_rfl) (by kernel_rfl) (by kernel_rfl)
      (OpenSpec.preRow_of_cond 8 hx (by kernel_rfl) (fun k hk => by cases hk) (by kernel_rfl) (laid_met os))) ?_
  intro W base args ds gs before hval hW _ _ _ _ _ _
  exact contract H enc W base args ds gs before hval hW

theorem said : Rows.DiffTellsSaid :=
  OpenClaim.holds_of_cond 3 Tryz.f3 rfl rfl rfl rfl rfl rfl rfl ⟨rfl, rfl, rfl, rfl, rfl⟩ rfl rfl rfl rfl rfl (by kernel_rfl) Tryz.func3 (by kernel_rfl)
    (of_decide_eq_true (by kernel_rfl)) (by unfold Func.isWrapper; first | (rw [if_pos (by decide +kernel)]; kernel_rfl) | (rw [if_neg (by decide +kernel)]; exact ⟨rfl, rfl⟩))
    (fun os started H enc _ F => by rw [OpenClaim.pre_eq_preRow]; exact lifted os started H enc F)

theorem plain (f : FuncId) (fn : Func) (hf : Tryz.pinned.checked.prog.funcNamed "flotsam/flotsamlaw39.DiffTells" = some f) (hfn : Tryz.pinned.checked.prog.funcs[f]? = some fn) :
    false = Tryz.pinned.checked.prog.looks [] ∧ ∀ (j : Nat) t, fn.params[j]? = some t → Tryz.pinned.checked.prog.wantsStandIn t = false := by
  obtain rfl : f = 3 := Option.some.inj ((show Tryz.prog.funcNamed "flotsam/flotsamlaw39.DiffTells" = some 3 by kernel_rfl).symm.trans hf) |>.symm
  obtain rfl : fn = Tryz.f3 := (Option.some.inj (Tryz.func3.symm.trans hfn)).symm
  refine ⟨by kernel_rfl, fun j t ht => ?_⟩
  have hall : ∀ t ∈ Tryz.f3.params, Tryz.prog.wantsStandIn t = false := by decide +kernel
  exact hall t (Array.mem_of_getElem? ht)

/-- The card. -/
theorem card : Rows.DiffTellsCardSaid :=
  Claim7.holds_tied_plain_at .later [] _ _ _ _ said (fun _ h => by cases h) (by kernel_rfl) (fun _ h => by cases h) diffTells_row_tie rfl ⟨rfl, rfl⟩ (by kernel_rfl) rfl plain (by kernel_rfl)
end tells
end Go.Proofs.YtkcpcjhjemedpaaGreatDoor
