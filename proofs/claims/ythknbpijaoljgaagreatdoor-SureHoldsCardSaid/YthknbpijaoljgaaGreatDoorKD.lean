/- The card. Conditions: none. -/
import Derived.Test.YthknbpijaoljgaaGreatDoorKC
import Derived.Test.YthknbpijaoljgaaGreatDoorCards
import Derived.Test.YthknbpijaoljgaaGreatDoorTie
set_option maxRecDepth 100000
set_option linter.all false
namespace Go.Proofs.YthknbpijaoljgaaGreatDoor
open Go.Sy Go.ChangeShapes Go.WideShapes Go.ChangeAt Go.RowKit
def plainT : List Nat := [56, 68, 5, 34, 22, 3, 36, 38, 23]
theorem closed : closedB ti plainT = true := by decide +kernel
theorem shp_byte {n : Nat} {ds : List D} (h : Shp ti n 5 ds) : ∃ b : UInt8, ds = [.it .u8 b.toNat] := by
 match n, h with
 | n + 1, h =>
  obtain ⟨z, rfl, h1, h2⟩ := h
  have h1' : (0 : Int) ≤ z := h1
  have h2' : z ≤ 255 := h2
  refine ⟨by8e z, ?_⟩
  rw [by8e_ok (by omega)]
theorem shp_bytes {n : Nat} : ∀ {m : Nat} {ds : List D}, ShpN (Shp ti n 5) m ds → ∃ s : List UInt8, s.length = m ∧ ds = encS s
 | 0, ds, h => ⟨[], rfl, h⟩
 | m + 1, ds, h => by
  obtain ⟨a, b, rfl, h1, h2⟩ := h
  obtain ⟨c, rfl⟩ := shp_byte h1
  obtain ⟨s, hs, rfl⟩ := shp_bytes h2
  exact ⟨c :: s, by simp [hs], rfl⟩
theorem shp_sec {n : Nat} {ds : List D} (h : Shp ti n 34 ds) : ∃ s : List UInt8, s.length = 32 ∧ ds = encS s := by
 match n, h with
 | n + 1, h => exact shp_bytes (n := n) (m := 32) h
theorem shp_secs {n : Nat} : ∀ {es : List (List D)}, (∀ x ∈ es, Shp ti n 34 x) → ∃ m : List (List UInt8), ImOK m ∧ es = m.map encS
 | [], _ => ⟨[], (fun s hs => by cases hs), rfl⟩
 | x :: es, h => by
  obtain ⟨s, hs, rfl⟩ := shp_sec (h x List.mem_cons_self)
  obtain ⟨m, hm, rfl⟩ := shp_secs (fun y hy => h y (List.mem_cons_of_mem _ hy))
  refine ⟨s :: m, fun t ht => ?_, rfl⟩
  rcases List.mem_cons.1 ht with rfl | ht
  ·exact hs
  ·exact hm t ht
theorem shp_img {n : Nat} {x : D} (h : Shp ti n 22 [x]) : ∃ m : List (List UInt8), ImOK m ∧ x = encM m := by
 match n, h with
 | n + 1, h =>
  obtain ⟨es, hl, _, he⟩ := h
  obtain ⟨m, hm, rfl⟩ := shp_secs he
  exact ⟨m, hm, by simpa using hl⟩
theorem shp_int {n : Nat} {ds : List D} (h : Shp ti n 3 ds) : ∃ z : Int, ds = [.it .i64 z] := by
 match n, h with
 | n + 1, h =>
  obtain ⟨z, rfl, _⟩ := h
  exact ⟨z, rfl⟩
theorem shp_wr {n : Nat} {ds : List D} (h : Shp ti n 38 ds) : ∃ w : Wr, w.s.length = 32 ∧ ds = encW w := by
 match n, h with
 | n + 1, h =>
  obtain ⟨a, b, rfl, ha, c, d, rfl, hc, e, f, rfl, he, g, q, rfl, hg, rfl⟩ := h
  obtain ⟨za, rfl⟩ := shp_int ha
  obtain ⟨s, hs, rfl⟩ := shp_sec hc
  obtain ⟨ze, rfl⟩ := shp_int hg
  match n, he with
  | n + 1, he =>
   obtain ⟨k, i, rfl, hk, j, r, rfl, hj, rfl⟩ := he
   obtain ⟨zk, rfl⟩ := shp_int hk
   obtain ⟨zj, rfl⟩ := shp_int hj
   exact ⟨⟨za, s, zk, zj, ze⟩, hs, by simp [encW]⟩
theorem shp_wrs {n : Nat} : ∀ {es : List (List D)}, (∀ x ∈ es, Shp ti n 38 x) → ∃ l : List Wr, WsOK l ∧ es = l.map encW
 | [], _ => ⟨[], (fun s hs => by cases hs), rfl⟩
 | x :: es, h => by
  obtain ⟨s, hs, rfl⟩ := shp_wr (h x List.mem_cons_self)
  obtain ⟨m, hm, rfl⟩ := shp_wrs (fun y hy => h y (List.mem_cons_of_mem _ hy))
  refine ⟨s :: m, fun t ht => ?_, rfl⟩
  rcases List.mem_cons.1 ht with rfl | ht
  ·exact hs
  ·exact hm t ht
theorem shp_ws {n : Nat} {x : D} (h : Shp ti n 23 [x]) : ∃ l : List Wr, WsOK l ∧ x = .fs 36 (l.map encW) := by
 match n, h with
 | n + 1, h =>
  obtain ⟨es, hl, _, he⟩ := h
  obtain ⟨m, hm, rfl⟩ := shp_wrs he
  exact ⟨m, hm, by simpa using hl⟩
theorem shp_state {n : Nat} {ds : List D} (h : Shp ti n 56 ds) : ∃ (m : List (List UInt8)) (ws : List Wr), ImOK m ∧ WsOK ws ∧ ds = encSt m ws := by
 match n, h with
 | 1, h =>
  obtain ⟨a, b, rfl, ha, c, d, rfl, hc, rfl⟩ := h
  exact ha.elim
 | n + 2, h =>
  obtain ⟨a, b, rfl, ha, c, d, rfl, hc, rfl⟩ := h
  obtain ⟨x, rfl⟩ : ∃ x, a = [x] := by
   obtain ⟨es, hl, _, he⟩ := ha
   exact ⟨_, hl⟩
  obtain ⟨y, rfl⟩ : ∃ x, c = [x] := by
   obtain ⟨es, hl, _, he⟩ := hc
   exact ⟨_, hl⟩
  obtain ⟨m, hm, rfl⟩ := shp_img ha
  obtain ⟨ws, hw, rfl⟩ := shp_ws hc
  exact ⟨m, ws, hm, hw, rfl⟩
theorem shp_u64 {n : Nat} {x : D} (h : Shp ti n 68 [x]) : ∃ b : Nat, b ≤ 18446744073709551615 ∧ x = .it .u64 (b : Nat) := by
 match n, h with
 | n + 1, h =>
  obtain ⟨z, e, h1, h2⟩ := h
  obtain rfl : x = .it .u64 z := by simpa using e
  have h1' : (0 : Int) ≤ z := h1
  have h2' : z ≤ 18446744073709551615 := h2
  exact ⟨z.toNat, by omega, by rw [Int.toNat_of_nonneg h1']⟩
theorem own : ownKnob Tryz.prog.godebug = none := by kernel_rfl
theorem laidOut : laidOutB Tryz.prog = true := by kernel_rfl
namespace tells
theorem contract (H : Type) (enc : TypeId × Value → H) (W : World) (base : Nat) (args : Array Value) (ds gs : List (DataW H)) (before : List MemPlace)
  (hval : ∀ (j : Nat) t v, Tryz.f5.params[j]? = some t → args[j]? = some v → Value.okWide Tryz.prog W .any base t v)
  (hW : DataW.Whole enc Tryz.prog Tryz.f5.params.toList Rows.sureHoldsSpec.vars false W args.toList ds gs before) :
  Calls Tryz.prog 5 args W fun e W' => ∃ v, e = .returned v ∧ Rows.sureHoldsSpec.post enc Tryz.prog Tryz.f5 false true false false W args v W' := by
 have hW' := hW
 obtain ⟨p, q, hA, hV, rfl, _, _⟩ := hW
 have hA' : DataW.TrodAll enc Tryz.prog W 0 (fun _ => true) true [56, 68] args.toList ds p := hA
 obtain ⟨v0, _, d0, _, p0, _, e0, rfl, _, h0, hA1⟩ := trodAll_cons hA'
 obtain ⟨v1, _, d1, _, p1, _, rfl, rfl, _, h1, hA2⟩ := trodAll_cons hA1
 obtain ⟨rfl, rfl, _⟩ := trodAll_nil hA2
 obtain rfl : args = #[v0, v1] := by cases args; simp_all
 obtain ⟨rfl, rfl⟩ := trodVars_none hV
 obtain ⟨n0, x0, s0, a0⟩ := arg_agg ti_ok closed (t := 56) (by decide) (ty := _) rfl rfl (hval 0 56 v0 rfl rfl) h0
 obtain ⟨n1, x1, s1, a1⟩ := arg_one ti_ok closed (t := 68) (by decide) (ty := _) rfl rfl (hval 1 68 v1 rfl rfl) h1
 obtain ⟨m, ws, g0, g1, rfl⟩ := shp_state s0
 obtain ⟨z, hz, rfl⟩ := shp_u64 s1
 refine (FnC.enter (law37h_ok m g0 ws g1 z hz) (Tryz.call5 _ _) (fun b hb => by cases hb) rfl ?_).mono ?_
 ·intro j hj
  match j, hj with
  | 0, _ => exact a0
  | 1, _ => exact a1
 ·rintro e W' ⟨rfl, hB⟩
  exact ⟨_, rfl, law_post hW' rfl rfl rfl rfl rfl Tryz.underlying4 laidOut (by decide +kernel) hB⟩
noncomputable def wit : Array Value := #[.agg #[.slice none 0 0, .slice none 0 0], .int .u64 0]
noncomputable def laidWorld (os : Os) : World :=
 { World.holding Tryz.prog os ⟨#[], #[], []⟩ with heap := laidHeap (World.holding Tryz.prog os ⟨#[], #[], []⟩).heap [(2, Rows.laid_unicode_utf8_acceptRanges), (1, Rows.laid_unicode_utf8_first)] }
theorem laid_met (os : Os) : laidMet Tryz.prog Rows.sureHoldsRow.laid ((laidWorld os).forCall (fun _ _ => 0) ⟨#[], wit, []⟩).memory :=
 laidMet_of_run' 8 (by kernel_rfl) (by kernel_rfl)
theorem reads (os : Os) {H : Type} (enc : TypeId × Value → H) : ∃ places, DataW.whole enc Tryz.prog ((laidWorld os).forCall (fun _ _ => 0) ⟨#[], wit, []⟩).memory Tryz.f5.params.toList Rows.sureHoldsSpec.vars false wit.toList 8 = some ([.agg [.nil, .nil], .lit (.int .u64 0)], [], places) :=
 ⟨[], by kernel_rfl⟩
theorem lifted (os : Os) (started : os.Started) (H : Type) (enc : TypeId × Value → H) (F : Stop.Interp) :
  ReturnsInHanded {} Tryz.checked os 5 .any ((OpenSpec.ofChange Rows.sureHoldsSpec).preRow enc Tryz.prog Tryz.f5 Rows.sureHoldsRow.domain false Rows.sureHoldsRow.laid) (((OpenSpec.ofChange Rows.sureHoldsSpec).at F).post enc Tryz.prog Tryz.f5 false true false false) := by
 obtain ⟨places, hx⟩ := reads os enc
 refine returnsInHanded_of_row (C := Tryz.checked) (s := OpenSpec.ofChange Rows.sureHoldsSpec) own started (by kernel_rfl) Tryz.func5
  (witness_row_at (enc := enc) (C := Tryz.checked) false (laidWorld os) wit rfl (by kernel_rfl) (by kernel_rfl) (by kernel_rfl)
   (OpenSpec.preRow_of_cond 8 hx (by kernel_rfl) (fun k hk => by cases hk) (by kernel_rfl) (laid_met os))) ?_
 intro W base args ds gs before hval hW _ _ _ _ _ _
 exact contract H enc W base args ds gs before hval hW
theorem said : Rows.SureHoldsSaid :=
 OpenClaim.holds_of_cond 5 Tryz.f5 rfl rfl rfl rfl rfl rfl rfl ⟨rfl, rfl, rfl, rfl, rfl⟩ rfl rfl rfl rfl rfl (by kernel_rfl) Tryz.func5 (by kernel_rfl)
  (of_decide_eq_true (by kernel_rfl)) (by unfold Func.isWrapper; first | (rw [if_pos (by decide +kernel)]; kernel_rfl) | (rw [if_neg (by decide +kernel)]; exact ⟨rfl, rfl⟩))
  (fun os started H enc _ F => by rw [OpenClaim.pre_eq_preRow]; exact lifted os started H enc F)
theorem plain (f : FuncId) (fn : Func) (hf : Tryz.pinned.checked.prog.funcNamed "flotsam/flotsamlaw37.SureHolds" = some f) (hfn : Tryz.pinned.checked.prog.funcs[f]? = some fn) :
  false = Tryz.pinned.checked.prog.looks [] ∧ ∀ (j : Nat) t, fn.params[j]? = some t → Tryz.pinned.checked.prog.wantsStandIn t = false := by
 obtain rfl : f = 5 := Option.some.inj ((show Tryz.prog.funcNamed "flotsam/flotsamlaw37.SureHolds" = some 5 by kernel_rfl).symm.trans hf) |>.symm
 obtain rfl : fn = Tryz.f5 := (Option.some.inj (Tryz.func5.symm.trans hfn)).symm
 refine ⟨by kernel_rfl, fun j t ht => ?_⟩
 have hall : ∀ t ∈ Tryz.f5.params, Tryz.prog.wantsStandIn t = false := by decide +kernel
 exact hall t (Array.mem_of_getElem? ht)
theorem card : Rows.SureHoldsCardSaid :=
 Claim7.holds_tied_plain_at .later [] _ _ _ _ said (fun _ h => by cases h) (by kernel_rfl) (fun _ h => by cases h) sureHolds_row_tie rfl ⟨rfl, rfl⟩ (by kernel_rfl) rfl plain (by kernel_rfl)
end tells
end Go.Proofs.YthknbpijaoljgaaGreatDoor
