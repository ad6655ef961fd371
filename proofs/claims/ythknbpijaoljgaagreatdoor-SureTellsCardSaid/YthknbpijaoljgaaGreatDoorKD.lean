/- The card. Conditions: none. -/
import Derived.Test.YthknbpijaoljgaaGreatDoorKC
import Derived.Test.YthknbpijaoljgaaGreatDoorCards
import Derived.Test.YthknbpijaoljgaaGreatDoorTie
set_option maxRecDepth 100000
set_option linter.all false
set_option maxHeartbeats 16000000
namespace Go.Proofs.YthknbpijaoljgaaGreatDoor
open Go.Sy Go.ChangeShapes Go.WideShapes Go.ChangeAt Go.RowKit
def plainT : List Nat := [56, 5, 34, 22, 3, 36, 38, 23]
theorem closed : QE2 ti plainT = true := by decide +kernel
theorem QKO {n : Nat} {ds : List D} (h : Shp ti n 5 ds) : ∃ b : UInt8, ds = [.it .u8 b.toNat] := by
 match n, h with
 | n + 1, h =>
  obtain ⟨z, rfl, h1, h2⟩ := h
  have h1' : (0 : Int) ≤ z := h1
  have h2' : z ≤ 255 := h2
  refine ⟨QBN z, ?_⟩
  rw [QAm (by omega)]
theorem QDy {n : Nat} : ∀ {m : Nat} {ds : List D}, QL5 (Shp ti n 5) m ds → ∃ s : List UInt8, s.length = m ∧ ds = QO s
 | 0, ds, h => ⟨[], rfl, h⟩
 | m + 1, ds, h => by
  obtain ⟨a, b, rfl, h1, h2⟩ := h
  obtain ⟨c, rfl⟩ := QKO h1
  obtain ⟨s, hs, rfl⟩ := QDy h2
  exact ⟨c :: s, by simp [hs], rfl⟩
theorem QH8 {n : Nat} {ds : List D} (h : Shp ti n 34 ds) : ∃ s : List UInt8, s.length = 32 ∧ ds = QO s := by
 match n, h with
 | n + 1, h => exact QDy (n := n) (m := 32) h
theorem QFv {n : Nat} : ∀ {es : List (List D)}, (∀ x ∈ es, Shp ti n 34 x) → ∃ m : List (List UInt8), Z7 m ∧ es = m.map QO
 | [], _ => ⟨[], (fun s hs => by cases hs), rfl⟩
 | x :: es, h => by
  obtain ⟨s, hs, rfl⟩ := QH8 (h x List.mem_cons_self)
  obtain ⟨m, hm, rfl⟩ := QFv (fun y hy => h y (List.mem_cons_of_mem _ hy))
  refine ⟨s :: m, fun t ht => ?_, rfl⟩
  rcases List.mem_cons.1 ht with rfl | ht
  ·exact hs
  ·exact hm t ht
theorem QLm {n : Nat} {x : D} (h : Shp ti n 22 [x]) : ∃ m : List (List UInt8), Z7 m ∧ x = Yh m := by
 match n, h with
 | n + 1, h =>
  obtain ⟨es, hl, _, he⟩ := h
  obtain ⟨m, hm, rfl⟩ := QFv he
  exact ⟨m, hm, by simpa using hl⟩
theorem QCP {n : Nat} {ds : List D} (h : Shp ti n 3 ds) : ∃ z : Int, ds = [.it .i64 z] := by
 match n, h with
 | n + 1, h =>
  obtain ⟨z, rfl, _⟩ := h
  exact ⟨z, rfl⟩
theorem QM4 {n : Nat} {ds : List D} (h : Shp ti n 38 ds) : ∃ w : Wr, w.s.length = 32 ∧ ds = Zi w := by
 match n, h with
 | n + 1, h =>
  obtain ⟨a, b, rfl, ha, c, d, rfl, hc, e, f, rfl, he, g, q, rfl, hg, rfl⟩ := h
  obtain ⟨za, rfl⟩ := QCP ha
  obtain ⟨s, hs, rfl⟩ := QH8 hc
  obtain ⟨ze, rfl⟩ := QCP hg
  match n, he with
  | n + 1, he =>
   obtain ⟨k, i, rfl, hk, j, r, rfl, hj, rfl⟩ := he
   obtain ⟨zk, rfl⟩ := QCP hk
   obtain ⟨zj, rfl⟩ := QCP hj
   exact ⟨⟨za, s, zk, zj, ze⟩, hs, by simp [Zi]⟩
theorem QH9 {n : Nat} : ∀ {es : List (List D)}, (∀ x ∈ es, Shp ti n 38 x) → ∃ l : List Wr, Xj l ∧ es = l.map Zi
 | [], _ => ⟨[], (fun s hs => by cases hs), rfl⟩
 | x :: es, h => by
  obtain ⟨s, hs, rfl⟩ := QM4 (h x List.mem_cons_self)
  obtain ⟨m, hm, rfl⟩ := QH9 (fun y hy => h y (List.mem_cons_of_mem _ hy))
  refine ⟨s :: m, fun t ht => ?_, rfl⟩
  rcases List.mem_cons.1 ht with rfl | ht
  ·exact hs
  ·exact hm t ht
theorem QM5 {n : Nat} {x : D} (h : Shp ti n 23 [x]) : ∃ l : List Wr, Xj l ∧ x = .fs 36 (l.map Zi) := by
 match n, h with
 | n + 1, h =>
  obtain ⟨es, hl, _, he⟩ := h
  obtain ⟨m, hm, rfl⟩ := QH9 he
  exact ⟨m, hm, by simpa using hl⟩
theorem QIs {n : Nat} {ds : List D} (h : Shp ti n 56 ds) : ∃ (m : List (List UInt8)) (ws : List Wr), Z7 m ∧ Xj ws ∧ ds = Qh m ws := by
 match n, h with
 | 1, h =>
  obtain ⟨a, b, rfl, ha, c, d, rfl, hc, rfl⟩ := h
  exact ha.elim
 | n + 2, h =>
  obtain ⟨a, b, rfl, ha, c, d, rfl, hc, rfl⟩ := h
  obtain ⟨x, rfl⟩ : ∃ x, a = [x] := by
   obtain ⟨es, hl, _, he⟩ := ha
   exact ⟨_, hl⟩
  obtain ⟨y, rfl⟩ : ∃ x, c = [x] := by
   obtain ⟨es, hl, _, he⟩ := hc
   exact ⟨_, hl⟩
  obtain ⟨m, hm, rfl⟩ := QLm ha
  obtain ⟨ws, hw, rfl⟩ := QM5 hc
  exact ⟨m, ws, hm, hw, rfl⟩
theorem own : ownKnob Tryz.prog.godebug = none := by kernel_rfl
theorem laidOut : laidOutB Tryz.prog = true := by kernel_rfl
namespace tells
theorem contract (H : Type) (enc : TypeId × Value → H) (W : World) (base : Nat) (args : Array Value) (ds gs : List (DataW H)) (before : List MemPlace)
  (hval : ∀ (j : Nat) t v, Tryz.f4.params[j]? = some t → args[j]? = some v → Value.okWide Tryz.prog W .any base t v)
  (hW : DataW.Whole enc Tryz.prog Tryz.f4.params.toList Rows.sureTellsSpec.vars false W args.toList ds gs before) :
  Calls Tryz.prog 4 args W fun e W' => ∃ v, e = .returned v ∧ Rows.sureTellsSpec.post enc Tryz.prog Tryz.f4 false true false false W args v W' := by
 have hW' := hW
 obtain ⟨p, q, hA, hV, rfl, _, _⟩ := hW
 have hA' : DataW.TrodAll enc Tryz.prog W 0 (fun _ => true) true [56] args.toList ds p := hA
 obtain ⟨v0, _, d0, _, p0, _, e0, rfl, _, h0, hA1⟩ := trodAll_cons hA'
 obtain ⟨rfl, rfl, _⟩ := trodAll_nil hA1
 obtain rfl : args = #[v0] := by cases args; simp_all
 obtain ⟨rfl, rfl⟩ := trodVars_none hV
 obtain ⟨n0, x0, s0, a0⟩ := QL9 QA closed (t := 56) (by decide) (ty := _) rfl rfl (hval 0 56 v0 rfl rfl) h0
 obtain ⟨m, ws, g0, g1, rfl⟩ := QIs s0
 refine (FnC.enter (QIr m g0 ws g1) (Tryz.call4 _ _) (fun b hb => by cases hb) rfl ?_).mono ?_
 ·intro j hj
  match j, hj with
  | 0, _ => exact a0
 ·rintro e W' ⟨rfl, hB⟩
  exact ⟨_, rfl, QKt hW' rfl rfl rfl rfl rfl Tryz.underlying4 laidOut (by decide +kernel) hB⟩
noncomputable def wit : Array Value := #[.agg #[.slice none 0 0, .slice none 0 0]]
noncomputable def laidWorld (os : Os) : World :=
 { World.holding Tryz.prog os ⟨#[], #[], []⟩ with heap := QKu (World.holding Tryz.prog os ⟨#[], #[], []⟩).heap [(2, Rows.laid_unicode_utf8_acceptRanges), (1, Rows.laid_unicode_utf8_first)] }
theorem laid_met (os : Os) : laidMet Tryz.prog Rows.sureTellsRow.laid ((laidWorld os).forCall (fun _ _ => 0) ⟨#[], wit, []⟩).memory :=
 laidMet_of_run' 8 (by kernel_rfl) (by kernel_rfl)
theorem reads (os : Os) {H : Type} (enc : TypeId × Value → H) : ∃ places, DataW.whole enc Tryz.prog ((laidWorld os).forCall (fun _ _ => 0) ⟨#[], wit, []⟩).memory Tryz.f4.params.toList Rows.sureTellsSpec.vars false wit.toList 8 = some ([.agg [.nil, .nil]], [], places) :=
 ⟨[], by kernel_rfl⟩
theorem lifted (os : Os) (started : os.Started) (H : Type) (enc : TypeId × Value → H) (F : Stop.Interp) :
  ReturnsInHanded {} Tryz.checked os 4 .any ((OpenSpec.ofChange Rows.sureTellsSpec).preRow enc Tryz.prog Tryz.f4 Rows.sureTellsRow.domain false Rows.sureTellsRow.laid) (((OpenSpec.ofChange Rows.sureTellsSpec).at F).post enc Tryz.prog Tryz.f4 false true false false) := by
 obtain ⟨places, hx⟩ := reads os enc
 refine returnsInHanded_of_row (C := Tryz.checked) (s := OpenSpec.ofChange Rows.sureTellsSpec) own started (by kernel_rfl) Tryz.func4
  (witness_row_at (enc := enc) (C := Tryz.checked) false (laidWorld os) wit rfl (by kernel_rfl) (by kernel_rfl) (by kernel_rfl)
   (OpenSpec.preRow_of_cond 8 hx (by kernel_rfl) (fun k hk => by cases hk) (by kernel_rfl) (laid_met os))) ?_
 intro W base args ds gs before hval hW _ _ _ _ _ _
 exact contract H enc W base args ds gs before hval hW
theorem said : Rows.SureTellsSaid :=
 OpenClaim.holds_of_cond 4 Tryz.f4 rfl rfl rfl rfl rfl rfl rfl ⟨rfl, rfl, rfl, rfl, rfl⟩ rfl rfl rfl rfl rfl (by kernel_rfl) Tryz.func4 (by kernel_rfl)
  (of_decide_eq_true (by kernel_rfl)) (by unfold Func.isWrapper; first | (rw [if_pos (by decide +kernel)]; kernel_rfl) | (rw [if_neg (by decide +kernel)]; exact ⟨rfl, rfl⟩))
  (fun os started H enc _ F => by rw [OpenClaim.pre_eq_preRow]; exact lifted os started H enc F)
theorem plain (f : FuncId) (fn : Func) (hf : Tryz.pinned.checked.prog.funcNamed "flotsam/flotsamlaw37.SureTells" = some f) (hfn : Tryz.pinned.checked.prog.funcs[f]? = some fn) :
  false = Tryz.pinned.checked.prog.looks [] ∧ ∀ (j : Nat) t, fn.params[j]? = some t → Tryz.pinned.checked.prog.wantsStandIn t = false := by
 obtain rfl : f = 4 := Option.some.inj ((show Tryz.prog.funcNamed "flotsam/flotsamlaw37.SureTells" = some 4 by kernel_rfl).symm.trans hf) |>.symm
 obtain rfl : fn = Tryz.f4 := (Option.some.inj (Tryz.func4.symm.trans hfn)).symm
 refine ⟨by kernel_rfl, fun j t ht => ?_⟩
 have hall : ∀ t ∈ Tryz.f4.params, Tryz.prog.wantsStandIn t = false := by decide +kernel
 exact hall t (Array.mem_of_getElem? ht)
theorem card : Rows.SureTellsCardSaid :=
 Claim7.holds_tied_plain_at .later [] _ _ _ _ said (fun _ h => by cases h) (by kernel_rfl) (fun _ h => by cases h) sureTells_row_tie rfl ⟨rfl, rfl⟩ (by kernel_rfl) rfl plain (by kernel_rfl)
end tells
end Go.Proofs.YthknbpijaoljgaaGreatDoor
