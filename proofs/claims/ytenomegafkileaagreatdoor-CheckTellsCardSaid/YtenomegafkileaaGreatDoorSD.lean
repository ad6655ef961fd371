/- A computing verification layer for data, proved sound over the library: what a body comes to, by its literal code. Conditions: none. -/
import Derived.Test.YtenomegafkileaaGreatDoorSC
set_option linter.all false
/- A call whose first argument is the nil slice, entered. Conditions: none. -/
namespace Go.Sy
set_option linter.unusedVariables false
set_option linter.unusedSimpArgs false
section
variable {P : Program} {ti : Nat → Option Ty} {N : Nat}
theorem CallI.inlN (sz : Nat) {f N' : Nat} {rs : List ResultVar} {c : Code} {o : Oper} {σ : S} {v0 : AV} {l : List AV} {K : S → Prop} (hti : TiOK P ti) (hf : FnI P f N' rs c) {x0 : Operand} {y0 : Array Operand} {t0 : Array TypeId} (hop0 : o.op = .call ⟨.value x0, y0, t0⟩) (hx0 : ρ σ.sl x0 = some (.fn (.func f) [] [])) (hy0 : y0.toList.head? = some (.const (.slice none 0 0))) (hlen : Nat.ble (v0 :: l).length N' = true)
    (h : vc P ti N' c (finI ti rs σ.nx o.dst K) ⟨idx 0 (.nl sz :: l), (σ.nx, .frame (N + 1) σ.sl) :: σ.mem, σ.nx + 1⟩) : CallI P N o σ f (v0 :: l) K := by
  refine ⟨fun ⟨⟨x, xs, ats, first, cap, l', hop, hx, hl, hll⟩, hd⟩ κ g a w hst next Q hn => ?_⟩
  have hin : x0 = x ∧ y0 = xs ∧ t0 = ats := by
    have := hop0.symm.trans hop
    simpa using this
  obtain ⟨rfl, rfl, rfl⟩ := hin
  obtain ⟨rfl, rfl⟩ : first = [] ∧ cap = [] := by
    have := hx0.symm.trans hx
    simp at this
    exact ⟨by simp [this.1], by simp [this.2]⟩
  have hl' : l' = v0 :: l := by simpa using hll.symm
  subst hl'
  obtain ⟨fn, k1, k2, k3, rfl⟩ := hf.ex
  obtain ⟨vs, ws, hev, hsz, hav⟩ := call_vals hst hx hl
  have hvw : vs = #[] ∧ ws = #[] := by
    have hxv := ρ_ok hst.sl hx
    rw [hev] at hxv
    cases hxv with | fn _ _ _ _ _ h1 h2 _ _ => exact ⟨Array.eq_empty_of_size_eq_zero h1, Array.eq_empty_of_size_eq_zero h2⟩
  obtain ⟨rfl, rfl⟩ := hvw
  have hav2 : ∀ j (hj : j < (AV.nl sz :: l).length), AVR g (AV.nl sz :: l)[j] ((#[] ++ y0.map a.eval ++ #[]).getD j undef) := fun j hj => by
    cases j with
    | zero =>
      obtain ⟨r, hr⟩ : ∃ r, y0.toList = .const (.slice none 0 0) :: r := by
        cases hq : y0.toList with
        | nil => rw [hq] at hy0; cases hy0
        | cons z r => rw [hq] at hy0; simp at hy0; exact ⟨r, by rw [hy0]⟩
      have e : y0 = (.const (.slice none 0 0) :: r : List Operand).toArray := by rw [← hr]
      subst e
      have ez : ((#[] ++ Array.map a.eval (Operand.const (Value.slice none 0 0) :: r : List Operand).toArray ++ #[] : Array Value)).getD 0 undef = .slice none 0 0 := by simp [Act.eval]
      rw [ez]
      exact .nl sz
    | succ j =>
      have e : ∀ (q : List AV) (hq : q = v0 :: l) (h1 : j + 1 < q.length), q[j + 1] = (AV.nl sz :: l)[j + 1] := fun q hq h1 => by subst hq; rfl
      have := hav (j + 1) (by simpa using hj)
      rw [e _ (by simp)] at this
      exact this
  have hlen' := Nat.le_of_ble_eq_true hlen
  have hexec : (execOp a.eval o).run P w = .ok (.enter f (#[] ++ y0.map a.eval ++ #[])) w := by
    simp only [execOp, hop, resolve, hev, Deferred.ofValue, pure_bind, invoke]
    exact hf.call _ _
  refine wp_enter hexec ?_
  have hi' : Inv (κ.inn none σ.nx a.tmps) g ((σ.nx, .frame (N + 1) σ.sl) :: σ.mem) w := hst.inv.enter none hst.ok hst.size hst.sl
  have hst' : St (κ.inn none σ.nx a.tmps) N' g ⟨idx 0 (.nl sz :: l), (σ.nx, .frame (N + 1) σ.sl) :: σ.mem, σ.nx + 1⟩ { tmps := (#[] ++ y0.map a.eval ++ #[]) ++ Array.replicate (fn.ntmps - (#[] ++ y0.map a.eval ++ #[]).size) undef, defers := [] } w := by
    rw [k3]
    refine St.args hi' rfl hlen' (by simpa using hsz) hav2 (S.ok_iff.2 ⟨fun p hp => ?_, fun p hp => ?_⟩)
    · have hm := idx_mem _ _ _ hp
      rcases List.mem_cons.1 hm with e | hm
      · rw [e]; rfl
      · exact AV.lt_mono (call_lt hst.ok hx hl _ (by simp [hm])) (Nat.le_succ _)
    · rcases List.mem_cons.1 hp with rfl | hp
      · refine ⟨Nat.lt_succ_self _, ?_⟩
        simp only [Ob.lt, List.all_eq_true]
        exact fun p hp => AV.lt_mono ((S.ok_iff.1 hst.ok).1 p hp) (Nat.le_succ _)
      · obtain ⟨q1, q2⟩ := S.ok_memAll hst.ok p hp
        exact ⟨Nat.lt_succ_of_lt q1, Ob.lt_mono q2 (Nat.le_succ _)⟩
  refine calls_of_vc hti k1 k2 k3 rfl rfl h hst' (fun e σ hq => finI_exit hq) fun e g' τ a' w' hq hst2 => ?_
  obtain ⟨l2, sz2, sl, r1, r2, r3, hK⟩ := finI_ok hq
  obtain ⟨u, hres, hu⟩ := res_ok hti hst2 r1
  have hleave : Inv κ g' (kills σ.nx τ.mem) w' := hst2.inv.leave rfl rfl rfl (fun D hD => hD) (fun n hn => if_neg hn) (fun _ _ _ _ _ _ _ _ => rfl)
  refine ⟨u, hres, u, rfl, hn g' _ _ _ hK ?_⟩
  exact St.back (d := 0) hst2 r3 hst.size hst.defers (if_pos rfl) hleave hd hu (resV_lt (resL_lt hst2.ok r1) r2)
end
end Go.Sy
