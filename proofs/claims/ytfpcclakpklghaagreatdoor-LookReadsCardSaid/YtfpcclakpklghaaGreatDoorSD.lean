/- A computing verification layer for data, proved sound over the library: what a body comes to, by its literal code. Conditions: none. -/
import Derived.Test.YtfpcclakpklghaaGreatDoorSC
import Derived.Lib.Overlaps
import Derived.Sort.Grow
set_option linter.all false
/- Two vectors lie apart: slices.overlaps says no. Conditions: none. -/
namespace Go.Sy
set_option linter.unusedVariables false
set_option linter.unusedSimpArgs false
section
variable {P : Program} {ti : Nat → Option Ty} {N : Nat}
theorem CallI.overlaps {f tS tR e size : Nat} {o : Oper} {σ : S} {sz sz2 m n i j la lb t t2 : Nat} {es es2 : List (List D)} {fl fl2 : Bool} {l : List AV} {K : S → Prop}
    (hf : ∀ (u v r : Value) (w w' : World), (Extern.SlicesOverlaps.overlaps #[tS, tS] #[tR] #[u, v]).run P w = .ok r w' → (callFunc f #[u, v]).run P w = .ok (.value r) w')
    (hS : P.underlying tS = some (.slice e)) (hz : ∀ w, (Go.sizeOf e).run P w = .ok size w) (hl1 : l = [.vx sz m i la, .vx sz2 n j lb]) (hm : look m σ.mem = some (.vec t sz es fl)) (hn : look n σ.mem = some (.vec t2 sz2 es2 fl2)) (hne : m ≠ n) (h0 : 0 < sz ∧ 0 < sz2) (hpos : 0 < la ∧ 0 < lb)
    (h : K (σ.put o.dst (.d (.bl false)))) : CallI P N o σ f l K := by
  subst hl1
  refine ⟨fun ⟨⟨x, xs, ats, first, cap, l', hop, hx, hl, hll⟩, hd⟩ κ g a w hst next Q hnx => ?_⟩
  obtain ⟨vs, ws, hev, hsz, hav⟩ := call_vals hst hx hl
  rw [← hll] at hsz
  have hav0 := hav 0 (by rw [← hll]; simp)
  have hav1 := hav 1 (by rw [← hll]; simp)
  obtain ⟨u, v, hu⟩ : ∃ u v, vs ++ xs.map a.eval ++ ws = #[u, v] := by
    generalize vs ++ xs.map a.eval ++ ws = z at hsz
    obtain ⟨l⟩ := z
    match l, hsz with
    | [u, v], _ => exact ⟨u, v, rfl⟩
  have hu0 : AVR g (.vx sz m i la) u := by
    have e : (first ++ l' ++ cap)[0]'(by rw [← hll]; simp) = .vx sz m i la := by simp only [← hll]; rfl
    rw [e, hu] at hav0
    exact hav0
  have hv0 : AVR g (.vx sz2 n j lb) v := by
    have e : (first ++ l' ++ cap)[1]'(by rw [← hll]; simp) = .vx sz2 n j lb := by simp only [← hll]; rfl
    rw [e, hu] at hav1
    exact hav1
  have hvm : VecOK g w m t sz es fl := hst.inv.obs m _ hm
  have hvn : VecOK g w n t2 sz2 es2 fl2 := hst.inv.obs n _ hn
  cases hu0 with | vx _ _ _ _ ad c hc had => ?_
  cases hv0 with | vx _ _ _ _ bd' c' hc' hbd => ?_
  obtain ⟨hh, rfl, hcp⟩ := had.pos (by omega)
  obtain ⟨hh', rfl, hcp'⟩ := hbd.pos (by omega)
  obtain ⟨arr, e1, e2, _⟩ := hvm.2.2 hh
  obtain ⟨arr', e1', e2', _⟩ := hvn.2.2 hh'
  have hblk : g.blk m ≠ g.blk n := hst.inv.inj m n hne (by unfold On; rw [hm]; exact hh) (by unfold On; rw [hn]; exact hh')
  have hpos2 : 0 < (j + c') * sz2 := Nat.mul_pos (by omega) h0.2
  have hrun := Lib.run_overlaps_apart (P := P) w tS tR e hS size hz ⟨g.blk m, g.hi m + i * sz, none⟩ ⟨g.blk n, g.hi n + j * sz2, none⟩ la c lb c' hblk t t2 arr.size arr'.size (by simp [World.shape?, e1]) (by simp [World.shape?, e1']) (by omega) (by simp [World.frozen?, e1]) (by simp [World.frozen?, e1])
  have hexec : (execOp a.eval o).run P w = .ok (.value (.bool false)) w := by
    simp only [execOp, hop, resolve, hev, Deferred.ofValue, pure_bind, invoke, hu]
    exact hf _ _ _ _ _ hrun
  refine wp_value hexec (hnx g _ _ _ h ?_)
  cases hdst : o.dst with
  | none => exact hst
  | some d => exact hst.put (hd d hdst) (.refl _ _) hst.inv (.d _ _ (.bl _)) (S.ok_cons hst.ok (Nat.le_refl _) rfl (S.ok_memAll hst.ok))
end
end Go.Sy

/- States said weaker: what is open or mutable becomes what it shows. Loops with it. Conditions: none. -/
namespace Go.Sy
set_option linter.unusedVariables false
set_option linter.unusedSimpArgs false

theorem vec_freeze {g : Gh} {w : World} {n t sz : Nat} {es : List (List D)} {fl : Bool} (hv : VecOK g w n t sz es fl) (hfrz : ∀ b o v, g.F b o = some v → w.cell? ⟨b, o, none⟩ = some v) :
    ∃ F' : Nat → Nat → Option Value, (∀ b o x, g.F b o = some x → F' b o = some x) ∧ (∀ b o x, F' b o = some x → g.F b o = some x ∨ (b = g.blk n ∧ g.has n = true)) ∧ (∀ b o x, F' b o = some x → w.cell? ⟨b, o, none⟩ = some x) ∧
      (∀ b o, g.F b o = none → (g.has n = true → b ≠ g.blk n) → F' b o = none) ∧ ∀ i len u, i + len ≤ es.length → AVR g (.vx sz n i len) u → DR F' (.fs sz ((es.drop i).take len)) u := by
  obtain ⟨v1, v2, v3⟩ := hv
  cases hh : g.has n with
  | false =>
    have he := v2 hh
    subst he
    refine ⟨g.F, fun _ _ _ h => h, fun _ _ _ h => .inl h, hfrz, fun _ _ h _ => h, fun i len u hle hu => ?_⟩
    cases hu with | vx _ _ _ _ ad c hc had => ?_
    simp at hle
    obtain ⟨rfl, rfl⟩ : i = 0 ∧ len = 0 := by omega
    exact .fs0 _ _ _
  | true =>
    obtain ⟨arr, e1, e2, e3, e4, e5, _, _⟩ := v3 hh
    refine ⟨frzF g n arr.size arr, fun b o x hx => ?_, fun b o x hx => ?_, fun b o x hx => ?_, fun b o hx hb => ?_, fun i len u hle hu => ?_⟩
    · unfold frzF
      by_cases hb : b = g.blk n
      · subst hb; rw [e5] at hx; cases hx
      · rw [if_neg hb]; exact hx
    · unfold frzF at hx
      by_cases hb : b = g.blk n
      · exact .inr ⟨hb, rfl⟩
      · rw [if_neg hb] at hx; exact .inl hx
    · unfold frzF at hx
      by_cases hb : b = g.blk n
      · subst hb
        rw [if_pos rfl] at hx
        by_cases ho : o < arr.size
        · rw [if_pos ho] at hx
          obtain rfl := Option.some.inj hx
          simp [World.cell?, e1, Array.getD, ho]
        · rw [if_neg ho] at hx; cases hx
      · rw [if_neg hb] at hx; exact hfrz b o x hx
    · unfold frzF; rw [if_neg (hb rfl)]; exact hx
    · cases hu with | vx _ _ _ _ ad c hc had => ?_
      have hlen : ((es.drop i).take len).length = len := by simp; omega
      by_cases h0 : len = 0
      · subst h0; rw [List.take_zero]; exact .fs0 _ _ _
      · obtain ⟨_, rfl, hcp⟩ := had.pos (by omega)
        have hbd : (i + len) * sz ≤ g.cp n := Nat.le_trans (Nat.mul_le_mul_right _ hle) e3
        rw [Nat.add_mul] at hbd
        refine .fs _ _ _ _ _ _ (fun i' j => arr.getD (g.hi n + i * sz + i' * sz + j) undef) hlen hc (fun i' hi' => v1 _ (List.mem_of_mem_drop (List.mem_of_mem_take (List.getElem_mem hi')))) (fun i' j hi' hj => ?_) fun i' hi' j hj => ?_
        · have hm1 : i' * sz + sz ≤ len * sz := by
            have : (i' + 1) * sz ≤ len * sz := Nat.mul_le_mul_right _ (by omega)
            rw [Nat.add_mul] at this; omega
          show frzF g n arr.size arr (g.blk n) (g.hi n + i * sz + i' * sz + j) = _
          unfold frzF
          rw [if_pos rfl, if_pos (by omega)]
        · have hk' : i + i' < es.length := by omega
          have hke : ((es.drop i).take len)[i'] = es[i + i'] := by simp
          have hj' : j < es[i + i'].length := by rw [← hke]; exact hj
          have := e4 (i + i') hk' j hj'
          rw [Nat.add_mul] at this
          rw [show g.hi n + i * sz + i' * sz + j = g.hi n + (i * sz + i' * sz) + j by omega]
          simp only [hke]
          refine this.mono fun b o x hx => ?_
          unfold frzF
          by_cases hb : b = g.blk n
          · subst hb; rw [e5] at hx; cases hx
          · rw [if_neg hb]; exact hx

/-- A value said weaker; a vector n's part as what it shows. -/
inductive Fz (sz n : Nat) (es : List (List D)) : AV → AV → Prop
  | same (u : AV) : Fz sz n es u u
  | vx (i len : Nat) (l : List (List D)) (h : i + len ≤ es.length) (hl : l = (es.drop i).take len) : Fz sz n es (.vx sz n i len) (.d (.fs sz l))
  | ts (k : Nat) (l : List (List D)) (m : Nat) : Fz sz n es (.ts k l m) (.d (.fs k l))
  | tg (k : Nat) (l : List (List D)) : Fz sz n es (.tg k l) (.d (.fs k l))
  | nl (k : Nat) : Fz sz n es (.nl k) (.d (.fs k []))

/-- An object said weaker. -/
inductive FzO (sz n : Nat) (es : List (List D)) : Ob → Ob → Prop
  | same (o : Ob) : FzO sz n es o o
  | cell (u v : AV) (h : Fz sz n es u v) (hs : v.sc = true) : FzO sz n es (.cells 1 [u]) (.cells 1 [v])

theorem Fz.avr {sz n m : Nat} {es : List (List D)} {u v : AV} {x : Value} {g : Gh} {F' : Nat → Nat → Option Value} (h : Fz sz n es u v) (hF : ∀ b o x, g.F b o = some x → F' b o = some x) (hv : ∀ i len u, i + len ≤ es.length → AVR g (.vx sz n i len) u → DR F' (.fs sz ((es.drop i).take len)) u) (hlt : u.lt m = true) (hx : AVR g u x) : AVR { g with F := F' } v x := by
  cases h with
  | same => exact AVR.ext (m := m) (g := g) (g' := { g with F := F' }) ⟨hF, fun _ _ => rfl, fun _ _ => rfl, fun _ _ => rfl, fun _ _ => rfl⟩ hlt hx
  | vx i len l h hl => subst hl; exact .d _ _ (hv i len x h hx)
  | ts k l m' =>
    cases hx with
    | ts0 _ _ _ _ _ _ hd => exact .d _ _ (hd.mono hF)
    | ts _ _ _ _ _ _ _ _ hd => exact .d _ _ (hd.mono hF)
  | tg k l => cases hx with | tg _ _ _ _ _ hd => exact .d _ _ (hd.mono hF)
  | nl k => cases hx; exact .d _ _ (.fs0 _ _ _)

section
variable {P : Program} {ti : Nat → Option Ty} {N : Nat}

structure Wk (N : Nat) (σ τ : S) : Prop where
  run : ∀ (κ : Ctx) (g : Gh) (a : Act) (w : World), St κ N g σ a w → ∃ g', St κ N g' τ a w

theorem Wk.en {σ τ : S} (h : En σ τ) : Wk N σ τ := ⟨fun κ g a w hst => ⟨g, h.st hst⟩⟩

/-- A vector is given up: what shows it is frozen. -/
theorem frz_st {σ τ : S} {n t sz : Nat} {es : List (List D)} {fl : Bool} (hm : look n σ.mem = some (.vec t sz es fl)) (hs : ∀ k v, look k τ.sl = some v → ∃ u, look k σ.sl = some u ∧ Fz sz n es u v)
    (hmem : ∀ k ob, look k τ.mem = some ob → k ≠ n ∧ ∃ ob', look k σ.mem = some ob' ∧ FzO sz n es ob' ob) (hok : τ.ok = true) {κ : Ctx} {g : Gh} {a : Act} {w : World} (hst : St κ N g σ a w) : ∃ F', St κ N { g with F := F' } τ a w := by
  obtain ⟨F', f1, f2, f3, f4, f5⟩ := vec_freeze (hst.inv.obs n _ hm) hst.inv.frz
  have hE : ∀ M, Ext M g { g with F := F' } := fun M => ⟨f1, fun _ _ => rfl, fun _ _ => rfl, fun _ _ => rfl, fun _ _ => rfl⟩
  have hn : g.has n = true → On g σ.mem n := fun h => by unfold On; rw [hm]; exact h
  have on : ∀ k, On { g with F := F' } τ.mem k → k ≠ n ∧ On g σ.mem k := fun k h => by
    unfold On at h ⊢
    cases hl : look k τ.mem with
    | none => rw [hl] at h; exact h.elim
    | some ob =>
      rw [hl] at h
      obtain ⟨h1, ob', h2, h3⟩ := hmem k ob hl
      refine ⟨h1, ?_⟩
      rw [h2]
      cases h3 with
      | same => exact h
      | cell => trivial
  have hF : ∀ k, On { g with F := F' } τ.mem k → ∀ o, g.F (g.blk k) o = none → F' (g.blk k) o = none := fun k h o hx => by
    obtain ⟨h1, h2⟩ := on k h
    exact f4 _ _ hx fun hh => hst.inv.inj k n h1 h2 (hn hh)
  refine ⟨F', hst.size, hst.defers, fun k v hk => ?_, ⟨f3, fun k ob hk => ?_, fun k m hkm h h' => hst.inv.inj k m hkm (on k h).2 (on m h').2, hst.inv.size, hst.inv.pres, fun k h => hst.inv.own k (on k h).2, fun b o v h => f1 _ _ _ (hst.inv.f0 b o v h), fun b o v h => ?_, hst.inv.os, hst.inv.tape, hst.inv.output, hst.inv.dfr⟩, hok⟩
  · obtain ⟨u, hu, hz⟩ := hs k v hk
    exact hz.avr f1 f5 (S.ok_sl hst.ok hu) (hst.sl k u hu)
  · obtain ⟨hkn, ob', hob', hz⟩ := hmem k ob hk
    have hob := hst.inv.obs k ob' hob'
    have hlt := (S.ok_mem hst.ok hob').2
    cases hz with
    | same =>
      cases ob with
      | cells size c =>
        obtain ⟨arr, T, e1, e2, e3, e4, e5, e6⟩ := hob
        simp only [Ob.lt, List.all_eq_true] at hlt
        exact ⟨arr, T, e1, e2, e3, e4, fun j hj => (e5 j hj).ext1 (hE σ.nx) (hlt _ (List.getElem_mem hj)), fun o => hF k (by unfold On; rw [hk]; trivial) o (e6 o)⟩
      | tail t b =>
        refine ⟨fun hh => ?_, hob.2⟩
        obtain ⟨arr, u, e1, e2, e3, e4⟩ := hob.1 hh
        exact ⟨arr, u, e1, e2, e3, fun o ho => hF k (by unfold On; rw [hk]; exact hh) o (e4 o ho)⟩
      | vec t' sz' es' f' => exact VecOK.mono hob f1 rfl rfl rfl rfl (fun _ => rfl) (fun hh o ho => hF k (by unfold On; rw [hk]; exact hh) o ho)
      | tag m t' => exact hob
      | frame sz' l =>
        simp only [Ob.lt, List.all_eq_true] at hlt
        exact ⟨hob.1, fun s v hs => (hob.2 s v hs).ext (hE σ.nx) (hlt _ (look_mem hs))⟩
      | loop k' ps asg body st pd => exact hob
    | cell u v h hsc =>
      obtain ⟨arr, T, e1, e2, e3, e4, e5, e6⟩ := hob
      have h5 := e5 0 (by simp)
      simp only [Ob.lt, List.all_cons, List.all_nil, Bool.and_true] at hlt
      have hlt' : u.lt σ.nx = true := by
        cases u <;> first | exact hlt | (simp only [AV.lt1, AV.lt0] at hlt; cases hlt)
      refine ⟨arr, T, e1, e2, rfl, fun j hj => ?_, fun j hj => ?_, fun o => hF k (by unfold On; rw [hk]; trivial) o (e6 o)⟩
      · obtain rfl : j = 0 := by simp at hj; omega
        exact hsc
      · obtain rfl : j = 0 := by simp at hj; omega
        exact h.avr f1 f5 hlt' h5
  · rcases f2 b o v h with h | ⟨rfl, hh⟩
    · exact hst.inv.fnew b o v h
    · exact .inr (hst.inv.own n (hn hh))

theorem Wk.frz {σ τ : S} {n t sz : Nat} {es : List (List D)} {fl : Bool} (hm : look n σ.mem = some (.vec t sz es fl)) (hs : ∀ k v, look k τ.sl = some v → ∃ u, look k σ.sl = some u ∧ Fz sz n es u v)
    (hmem : ∀ k ob, look k τ.mem = some ob → k ≠ n ∧ ∃ ob', look k σ.mem = some ob' ∧ FzO sz n es ob' ob) (hok : τ.ok = true) : Wk N σ τ := ⟨fun κ g a w hst => by
  obtain ⟨F', h⟩ := frz_st hm hs hmem hok hst
  exact ⟨_, h⟩⟩
/-- The same without a vector. -/
theorem Wk.vw {σ τ : S} (hs : ∀ k v, look k τ.sl = some v → ∃ u, look k σ.sl = some u ∧ Fz 0 0 [] u v ∧ ∀ i len l, u = .vx 0 0 i len → v ≠ .d (.fs 0 l)) (hmem : ∀ k ob, look k τ.mem = some ob → ∃ ob', look k σ.mem = some ob' ∧ FzO 0 0 [] ob' ob ∧ ∀ i len l, ob' = .cells 1 [.vx 0 0 i len] → ob ≠ .cells 1 [.d (.fs 0 l)]) (hok : τ.ok = true) : Wk N σ τ := by
  refine ⟨fun κ g a w hst => ?_⟩
  have hav : ∀ (u v : AV) (x : Value), Fz 0 0 [] u v → (∀ i len l, u = .vx 0 0 i len → v ≠ .d (.fs 0 l)) → AVR g u x → AVR g v x := fun u v x h hno hx => by
    cases h with
    | same => exact hx
    | vx i len l => exact absurd rfl (hno i len l rfl)
    | ts k l m' =>
      cases hx with
      | ts0 _ _ _ _ _ _ hd => exact .d _ _ hd
      | ts _ _ _ _ _ _ _ _ hd => exact .d _ _ hd
    | tg k l => cases hx with | tg _ _ _ _ _ hd => exact .d _ _ hd
    | nl k => cases hx; exact .d _ _ (.fs0 _ _ _)
  have on : ∀ k, On g τ.mem k → On g σ.mem k := fun k h => by
    unfold On at h ⊢
    cases hl : look k τ.mem with
    | none => rw [hl] at h; exact h.elim
    | some ob =>
      rw [hl] at h
      obtain ⟨ob', h2, h3, _⟩ := hmem k ob hl
      rw [h2]
      cases h3 with
      | same => exact h
      | cell => trivial
  refine ⟨g, hst.size, hst.defers, fun k v hk => ?_, ⟨hst.inv.frz, fun k ob hk => ?_, fun k m hkm h h' => hst.inv.inj k m hkm (on k h) (on m h'), hst.inv.size, hst.inv.pres, fun k h => hst.inv.own k (on k h), hst.inv.f0, hst.inv.fnew, hst.inv.os, hst.inv.tape, hst.inv.output, hst.inv.dfr⟩, hok⟩
  · obtain ⟨u, hu, hz, hno⟩ := hs k v hk
    exact hav u v _ hz hno (hst.sl k u hu)
  · obtain ⟨ob', hob', hz, hno⟩ := hmem k ob hk
    have hob := hst.inv.obs k ob' hob'
    cases hz with
    | same => exact hob
    | cell u v h hsc =>
      obtain ⟨arr, T, e1, e2, e3, e4, e5, e6⟩ := hob
      have h5 := e5 0 (by simp)
      refine ⟨arr, T, e1, e2, rfl, fun j hj => ?_, fun j hj => ?_, e6⟩
      · obtain rfl : j = 0 := by simp at hj; omega
        exact hsc
      · obtain rfl : j = 0 := by simp at hj; omega
        exact hav u v _ h (fun i len l hu hv => hno i len l (by rw [hu]) (by rw [hv])) h5

theorem Wk.trans {σ τ υ : S} (h : Wk N σ τ) (h' : Wk N τ υ) : Wk N σ υ := ⟨fun κ g a w hst => by
  obtain ⟨g', h1⟩ := h.run κ g a w hst
  exact h'.run κ g' a w h1⟩

/-- A round's end, said weaker. -/
def RoundW (N : Nat) {α : Type} (I : α → Prop) (A : α → S) (μ : α → Nat) (Q : Exit → S → Prop) (x : α) : Exit → S → Prop
  | .normal, σ => ∃ y, I y ∧ μ y < μ x ∧ Wk N σ (A y)
  | e, σ => Q e σ

theorem loop_ruleW {α : Type} {body : Code} {Q : Exit → S → Prop} {σ : S} (hti : TiOK P ti) (I : α → Prop) (A : α → S) (μ : α → Nat) (x : α) (hx : I x) (h0 : Wk N σ (A x)) (step : ∀ x, I x → vc P ti N body (RoundW N I A μ Q x) (A x)) : LoopS P N body Q σ := by
  refine ⟨fun κ g a w hr hst => wpIn_loop_rounds (μ x + 1) ?_⟩
  have key : ∀ n x (κ : Ctx) g a w, (κ.rd = none ∨ noRange body = true) → μ x < n → I x → St κ N g (A x) a w → Code.roundsIn (wd κ.rd) 0 P body (Post κ N Q) n a w := by
    intro n
    induction n with
    | zero => intro x κ g a w _ h; omega
    | succ n ih =>
      intro x κ g a w hr hlt hI hst
      rw [roundsIn_succ]
      refine wpIn_mono (vc_sound hti body _ _ (step x hI) κ g a w hr hst) fun e a' w' ⟨l, g', σ', hl, hq, hst'⟩ => ?_
      cases e with
      | normal =>
        obtain ⟨y, hy, hmu, hen⟩ := hq
        obtain ⟨g2, hst2⟩ := hen.run _ _ _ _ hst'
        exact roundsIn_mono (fun e a w hp => hp.app hl) n a' w' (ih y (κ.add l) g2 a' w' hr (by omega) hy hst2)
      | _ => exact ⟨l, g', σ', hl, hq, hst'⟩
  obtain ⟨g2, hst2⟩ := h0.run κ g a w hst
  exact key _ x κ g2 a w hr (by omega) hx hst2
end
end Go.Sy

/- States said weaker, slot by slot. Conditions: none. -/
namespace Go.Sy
def fzAt (sz n : Nat) (es : List (List D)) (l : List (Nat × AV)) (k : Nat) (v : AV) : Prop :=
  match look k l with
  | some u => Fz sz n es u v
  | none => False
def FzL (sz n : Nat) (es : List (List D)) (l : List (Nat × AV)) : List (Nat × AV) → Prop
  | [] => True
  | (k, v) :: t => fzAt sz n es l k v ∧ FzL sz n es l t
def fzoAt (sz n : Nat) (es : List (List D)) (l : List (Nat × Ob)) (k : Nat) (v : Ob) : Prop :=
  match look k l with
  | some u => FzO sz n es u v
  | none => False
def FzM (sz n : Nat) (es : List (List D)) (l : List (Nat × Ob)) : List (Nat × Ob) → Prop
  | [] => True
  | (k, v) :: t => Nat.beq k n = false ∧ fzoAt sz n es l k v ∧ FzM sz n es l t
theorem FzL.look {sz n : Nat} {es : List (List D)} {l m : List (Nat × AV)} (h : FzL sz n es l m) {k : Nat} {v : AV} (hk : look k m = some v) : ∃ u, look k l = some u ∧ Fz sz n es u v := by
  have hm := look_mem hk
  clear hk
  induction m with
  | nil => cases hm
  | cons p t ih =>
    obtain ⟨k', v'⟩ := p
    rcases List.mem_cons.1 hm with h' | h'
    · cases h'
      have := h.1
      unfold fzAt at this
      cases hu : Sy.look k l with
      | none => rw [hu] at this; exact this.elim
      | some u => rw [hu] at this; exact ⟨u, rfl, this⟩
    · exact ih h.2 h'
theorem FzM.look {sz n : Nat} {es : List (List D)} {l m : List (Nat × Ob)} (h : FzM sz n es l m) {k : Nat} {v : Ob} (hk : look k m = some v) : k ≠ n ∧ ∃ u, look k l = some u ∧ FzO sz n es u v := by
  have hm := look_mem hk
  clear hk
  induction m with
  | nil => cases hm
  | cons p t ih =>
    obtain ⟨k', v'⟩ := p
    rcases List.mem_cons.1 hm with h' | h'
    · cases h'
      refine ⟨Nat.ne_of_beq_eq_false h.1, ?_⟩
      have := h.2.1
      unfold fzoAt at this
      cases hu : Sy.look k l with
      | none => rw [hu] at this; exact this.elim
      | some u => rw [hu] at this; exact ⟨u, rfl, this⟩
    · exact ih h.2.2 h'
theorem Fz.ts' {sz n k m : Nat} {es l l' : List (List D)} (h : l = l') : Fz sz n es (.ts k l m) (.d (.fs k l')) := by subst h; exact .ts k l m
theorem Fz.tg' {sz n k : Nat} {es l l' : List (List D)} (h : l = l') : Fz sz n es (.tg k l) (.d (.fs k l')) := by subst h; exact .tg k l
theorem Fz.nl' {sz n k : Nat} {es l' : List (List D)} (h : [] = l') : Fz sz n es (.nl k) (.d (.fs k l')) := by subst h; exact .nl k
theorem Fz.eq {sz n : Nat} {es : List (List D)} {u v : AV} (h : u = v) : Fz sz n es u v := by subst h; exact .same u
/-- A view said weaker. -/
inductive Vw : AV → AV → Prop
  | same (u : AV) : Vw u u
  | ts (k : Nat) (l : List (List D)) (m : Nat) : Vw (.ts k l m) (.d (.fs k l))
  | tg (k : Nat) (l : List (List D)) : Vw (.tg k l) (.d (.fs k l))
  | nl (k : Nat) : Vw (.nl k) (.d (.fs k []))
/-- Slot by slot. -/
inductive VwC : List AV → List AV → Prop
  | nil : VwC [] []
  | cons {u v : AV} {a b : List AV} (h : Vw u v) (hs : v.sc = true) (t : VwC a b) : VwC (u :: a) (v :: b)
inductive VwO : Ob → Ob → Prop
  | same (o : Ob) : VwO o o
  | cells (size : Nat) (c c' : List AV) (h : VwC c c') : VwO (.cells size c) (.cells size c')
theorem VwO.cell (u v : AV) (h : Vw u v) (hs : v.sc = true) : VwO (.cells 1 [u]) (.cells 1 [v]) := .cells 1 _ _ (.cons h hs .nil)
theorem VwC.len {a b : List AV} (h : VwC a b) : a.length = b.length := by
  induction h with
  | nil => rfl
  | cons _ _ _ ih => simp [ih]
theorem VwC.at {a b : List AV} (h : VwC a b) : ∀ (j : Nat) (h1 : j < a.length) (h2 : j < b.length), Vw a[j] b[j] ∧ b[j].sc = true := by
  induction h with
  | nil => intro j h1; cases h1
  | cons h hs _ ih =>
    intro j h1 h2
    cases j with
    | zero => exact ⟨h, hs⟩
    | succ j => exact ih j (by simpa using h1) (by simpa using h2)
theorem Vw.avr {g : Gh} {u v : AV} {x : Value} (h : Vw u v) (hx : AVR g u x) : AVR g v x := by
  cases h with
  | same => exact hx
  | ts k l m' =>
    cases hx with
    | ts0 _ _ _ _ _ _ hd => exact .d _ _ hd
    | ts _ _ _ _ _ _ _ _ hd => exact .d _ _ hd
  | tg k l => cases hx with | tg _ _ _ _ _ hd => exact .d _ _ hd
  | nl k => cases hx; exact .d _ _ (.fs0 _ _ _)
def vwAt {α : Type} (R : α → α → Prop) (l : List (Nat × α)) (k : Nat) (v : α) : Prop :=
  match look k l with
  | some u => R u v
  | none => False
def VwL {α : Type} (R : α → α → Prop) (l : List (Nat × α)) : List (Nat × α) → Prop
  | [] => True
  | (k, v) :: t => vwAt R l k v ∧ VwL R l t
theorem VwL.look {α : Type} {R : α → α → Prop} {l m : List (Nat × α)} (h : VwL R l m) {k : Nat} {v : α} (hk : look k m = some v) : ∃ u, look k l = some u ∧ R u v := by
  have hm := look_mem hk
  clear hk
  induction m with
  | nil => cases hm
  | cons p t ih =>
    obtain ⟨k', v'⟩ := p
    rcases List.mem_cons.1 hm with h' | h'
    · cases h'
      have := h.1
      unfold vwAt at this
      cases hu : Sy.look k l with
      | none => rw [hu] at this; exact this.elim
      | some u => rw [hu] at this; exact ⟨u, rfl, this⟩
    · exact ih h.2 h'
theorem Vw.ts' {k m : Nat} {l l' : List (List D)} (h : l = l') : Vw (.ts k l m) (.d (.fs k l')) := by subst h; exact .ts k l m
theorem Vw.tg' {k : Nat} {l l' : List (List D)} (h : l = l') : Vw (.tg k l) (.d (.fs k l')) := by subst h; exact .tg k l
theorem Vw.nl' {k : Nat} {l' : List (List D)} (h : [] = l') : Vw (.nl k) (.d (.fs k l')) := by subst h; exact .nl k
theorem Vw.eq {u v : AV} (h : u = v) : Vw u v := by subst h; exact .same u
theorem Wk.vwL {N : Nat} {σ τ : S} (hs : VwL Vw σ.sl τ.sl) (hm : VwL VwO σ.mem τ.mem) (hok : τ.ok = true) : Wk N σ τ := by
  refine ⟨fun κ g a w hst => ?_⟩
  have on : ∀ k, On g τ.mem k → On g σ.mem k := fun k h => by
    unfold On at h ⊢
    cases hl : look k τ.mem with
    | none => rw [hl] at h; exact h.elim
    | some ob =>
      rw [hl] at h
      obtain ⟨ob', h2, h3⟩ := hm.look hl
      rw [h2]
      cases h3 with
      | same => exact h
      | cells => trivial
  refine ⟨g, hst.size, hst.defers, fun k v hk => ?_, ⟨hst.inv.frz, fun k ob hk => ?_, fun k m hkm h h' => hst.inv.inj k m hkm (on k h) (on m h'), hst.inv.size, hst.inv.pres, fun k h => hst.inv.own k (on k h), hst.inv.f0, hst.inv.fnew, hst.inv.os, hst.inv.tape, hst.inv.output, hst.inv.dfr⟩, hok⟩
  · obtain ⟨u, hu, hz⟩ := hs.look hk
    exact hz.avr (hst.sl k u hu)
  · obtain ⟨ob', hob', hz⟩ := hm.look hk
    have hob := hst.inv.obs k ob' hob'
    cases hz with
    | same => exact hob
    | cells size c c' h =>
      obtain ⟨arr, T, e1, e2, e3, e4, e5, e6⟩ := hob
      have hl := h.len
      exact ⟨arr, T, e1, e2, by omega, fun j hj => (h.at j (by omega) hj).2, fun j hj => (h.at j (by omega) hj).1.avr (e5 j (by omega)), e6⟩
section
variable {N : Nat}
theorem Wk.frzL {σ τ : S} (n t sz : Nat) (es : List (List D)) (fl : Bool) (hm : look n σ.mem = some (.vec t sz es fl)) (hs : FzL sz n es σ.sl τ.sl) (hmem : FzM sz n es σ.mem τ.mem) (hok : τ.ok = true) : Wk N σ τ :=
  Wk.frz hm (fun k v hk => hs.look hk) (fun k ob hk => hmem.look hk) hok
/-- The vector that a cell shows is given up. -/
def frzC (c : Nat) (σ τ : S) : Prop :=
  match look c σ.mem with
  | some (.cells 1 [.vx sz n i len]) => match look n σ.mem with
    | some (.vec t sz' es fl) => sz' = sz ∧ FzL sz n es σ.sl τ.sl ∧ FzM sz n es σ.mem τ.mem ∧ τ.ok = true
    | _ => False
  | _ => False
theorem Wk.frzC {σ τ : S} (c : Nat) (h : Sy.frzC c σ τ) : Wk N σ τ := by
  unfold Sy.frzC at h
  split at h
  · split at h
    · rename_i sz n i len _ _ t sz' es fl hm
      obtain ⟨rfl, h1, h2, h3⟩ := h
      exact Wk.frzL n t _ es fl hm h1 h2 h3
    · exact h.elim
  · exact h.elim
end
end Go.Sy

/- Contracts of functions that write into one variable, or one vector, of the caller's. Conditions: none. -/
namespace Go.Sy
set_option linter.unusedVariables false
set_option linter.unusedSimpArgs false

/-- A ghost state of one name. -/
def gh1 (F : Nat → Nat → Option Value) (b h c : Nat) (k : Bool) : Gh := ⟨F, fun _ => b, fun _ => h, fun _ => c, fun _ => k⟩

def AV.m1 (k : Bool) : AV → Bool
  | .ptr n _ => !k && Nat.beq n 0
  | .vx _ n _ _ => k && Nat.beq n 0
  | .vq _ n _ _ => k && Nat.beq n 0
  | .ms _ n _ _ _ => !k && Nat.beq n 0
  | .d _ | .dg .. => true
  | .tup vs => vs.all fun | .d _ | .dg .. => true | _ => false
  | _ => false
def AV.to (n : Nat) : AV → AV
  | .ptr _ off => .ptr n off
  | .vx sz _ i len => .vx sz n i len
  | .vq sz _ k off => .vq sz n k off
  | .ms sz _ off len cap => .ms sz n off len cap
  | v => v
def Ob.m1 (k : Bool) : Ob → Bool
  | .cells _ c => !k && (allD c).isSome
  | .vec _ _ es _ => k && Nat.blt 0 es.length
  | _ => false

theorem AVR.to {g g' : Gh} {n m : Nat} {kd : Bool} (hF : ∀ b o v, g.F b o = some v → g'.F b o = some v) (h1 : g'.blk m = g.blk n) (h2 : kd = true → g'.hi m = g.hi n) (h3 : kd = true → g'.cp m = g.cp n) (h4 : kd = true → g'.has m = g.has n) {v : AV} {x : Value} (hv : v.m1 kd = true) (h : AVR g (v.to n) x) : AVR g' (v.to m) x := by
  cases v with
  | ptr k off => cases h; rw [← h1]; exact .ptr m off
  | vx sz k i len =>
    simp only [AV.m1, Bool.and_eq_true] at hv
    cases h with | vx _ _ _ _ ad c hc had => exact .vx sz m i len ad c hc (by unfold VxOK at *; rw [h1, h2 hv.1, h3 hv.1, h4 hv.1]; exact had)
  | vq sz k j off =>
    simp only [AV.m1, Bool.and_eq_true] at hv
    cases h with | vq _ _ _ _ hh => rw [← h1, ← h2 hv.1]; exact .vq sz m j off ((h4 hv.1).trans hh)
  | ms sz k off len cap => cases h with | ms _ _ _ _ _ ad had hc => exact .ms sz m off len cap ad (by rw [h1]; exact had) hc
  | d y => exact isP_mono hF rfl h
  | dg k cs => exact isP_mono hF rfl h
  | tup vs => exact isP_mono hF hv h
  | _ => cases hv

theorem ObOK.to {κ κ' : Ctx} {g g' : Gh} {n m : Nat} {kd : Bool} {w : World} {ob : Ob} (hF : ∀ b o, g'.F b o = g.F b o) (h1 : g'.blk m = g.blk n) (h2 : kd = true → g'.hi m = g.hi n) (h3 : kd = true → g'.cp m = g.cp n) (h4 : kd = true → g'.has m = g.has n) (hv : ob.m1 kd = true) (h : ObOK κ g w n ob) : ObOK κ' g' w m ob := by
  cases ob with
  | cells size c =>
    obtain ⟨arr, T, e1, e2, e3, e4, e5, e6⟩ := h
    simp only [Ob.m1, Bool.and_eq_true, Option.isSome_iff_exists] at hv
    obtain ⟨_, ds, hv⟩ := hv
    obtain rfl := allD_ok hv
    refine ⟨arr, T, by rw [h1]; exact e1, e2, e3, e4, fun j hj => ?_, fun o => by rw [hF, h1]; exact e6 o⟩
    have := e5 j hj
    simp only [List.getElem_map] at this ⊢
    exact isP_mono (fun b o v h => by rw [hF]; exact h) rfl this
  | vec t sz es f =>
    obtain ⟨v1, v2, v3⟩ := h
    simp only [Ob.m1, Bool.and_eq_true] at hv
    have h4 := h4 hv.1
    have h2 := h2 hv.1
    have h3 := h3 hv.1
    refine ⟨v1, fun h => v2 (h4.symm.trans h), fun h => ?_⟩
    obtain ⟨arr, e1, e2, e3, e4, e5, e6, e7⟩ := v3 (h4.symm.trans h)
    exact ⟨arr, by rw [h1]; exact e1, by rw [h2, h3]; exact e2, by rw [h3]; exact e3, fun i hi j hj => by rw [h2]; exact (e4 i hi j hj).mono fun b o v h => by rw [hF]; exact h, fun o => by rw [hF, h1]; exact e5 o, fun hf => by rw [h3]; exact e6 hf, fun j hj => by rw [h2]; rw [h3] at hj; exact e7 j hj⟩
  | _ => cases hv

/-- A contract of a function of data and of one variable, or vector, which it may write. -/
structure FnM (P : Program) (f : Nat) (k : Bool) (args : List AV) (o0 o1 : Ob) (r : AV) : Prop where
  ma : args.all (AV.m1 k) = true
  m0 : o0.m1 k = true
  mo : o1.m1 k = true
  mr : r.m1 k = true
  run : ∀ (F : Nat → Nat → Option Value) (b h c : Nat) (w : World) (vs : Array Value), (∀ b o v, F b o = some v → w.cell? ⟨b, o, none⟩ = some v) → ObOK ⟨w, F, [], none, [], [], fun _ => #[], fun _ => 0⟩ (gh1 F b h c k) w 0 o0 → vs.size = args.length →
    (∀ j (hj : j < args.length), AVR (gh1 F b h c k) (args[j].to 0) (vs.getD j undef)) →
    Step P f vs w fun e w' => ∃ v F', e = .returned v ∧ AVR (gh1 F' b h c k) (r.to 0) v ∧ (∀ b o v, F b o = some v → F' b o = some v) ∧
      (∀ b o v, F' b o = some v → F b o = some v ∨ w.heap.size ≤ b) ∧ (∀ b o v, F' b o = some v → w'.cell? ⟨b, o, none⟩ = some v) ∧ ObOK ⟨w, F, [], none, [], [], fun _ => #[], fun _ => 0⟩ (gh1 F' b h c k) w' 0 o1 ∧ (∀ arr T z, w.heap[b]? = some (.cells arr T z) → ∃ arr' z', w'.heap[b]? = some (.cells arr' T z')) ∧
      w.heap.size ≤ w'.heap.size ∧ (∀ b', b' < w.heap.size → b' ≠ b → w'.heap[b']? = w.heap[b']?) ∧ w'.os = w.os ∧ w'.tape = w.tape ∧ w'.output = w.output

theorem Inv.growM {κ : Ctx} {g : Gh} {mem : List (Nat × Ob)} {nx n : Nat} {w w' : World} {o0 o1 : Ob} {F' : Nat → Nat → Option Value} (hi : Inv κ g mem w) (hmem : ∀ n ob, look n mem = some ob → n < nx ∧ ob.lt nx = true) (hn : look n mem = some o0) (hon : On g mem n) (hF : ∀ b o v, g.F b o = some v → F' b o = some v)
    (hsz : w.heap.size ≤ w'.heap.size) (hb : ∀ b, b < w.heap.size → b ≠ g.blk n → w'.heap[b]? = w.heap[b]?) (hnew : ∀ b o v, F' b o = some v → g.F b o = some v ∨ w.heap.size ≤ b)
    (hfrz : ∀ b o v, F' b o = some v → w'.cell? ⟨b, o, none⟩ = some v) (ho : ObOK κ { g with F := F' } w' n o1) (hT : ∀ arr T z, w.heap[g.blk n]? = some (.cells arr T z) → ∃ arr' z', w'.heap[g.blk n]? = some (.cells arr' T z'))
    (hd : ∃ arr T z, w.heap[g.blk n]? = some (.cells arr T z)) (h1 : w'.os = w.os) (h2 : w'.tape = w.tape) (h3 : w'.output = w.output) : Inv κ { g with F := F' } ((n, o1) :: mem) w' := by
  have lt_of : ∀ {b : Nat} {x : Obj}, w.heap[b]? = some x → b < w.heap.size := fun h => by
    rcases Nat.lt_or_ge _ w.heap.size with h' | h'
    · exact h'
    · rw [Array.getElem?_eq_none h'] at h; cases h
  have he : Ext nx g { g with F := F' } := ⟨hF, fun _ _ => rfl, fun _ _ => rfl, fun _ _ => rfl, fun _ _ => rfl⟩
  have none_of : ∀ b o, b < w.heap.size → g.F b o = none → F' b o = none := fun b o hb hn => by
    cases hq : F' b o with
    | none => rfl
    | some v =>
      rcases hnew _ _ _ hq with h | h
      · rw [hn] at h; cases h
      · omega
  have on : ∀ m, On { g with F := F' } ((n, o1) :: mem) m → On g mem m := fun m h => by
    by_cases hm : m = n
    · subst hm; exact hon
    · unfold On at h ⊢
      rw [look_cons, if_neg hm] at h
      exact h
  obtain ⟨arrn, Tn, zn, hdn⟩ := hd
  refine ⟨hfrz, fun m ob hm => ?_, fun m k hmk h h' => hi.inj m k hmk (on m h) (on k h'), Nat.le_trans hi.size hsz, fun b hb' hm => ?_, fun m h => hi.own m (on m h), fun b o v h => hF _ _ _ (hi.f0 _ _ _ h), fun b o v h => ?_, h1.trans hi.os, h2.trans hi.tape, h3.trans hi.output, fun D hD => ?_⟩
  · rw [look_cons] at hm
    by_cases hmn : m = n
    · subst hmn
      rw [if_pos rfl] at hm
      obtain rfl := Option.some.inj hm
      exact ho
    · rw [if_neg hmn] at hm
      obtain ⟨hm', hl⟩ := hmem m ob hm
      have := hi.obs m ob hm
      have ne : On g mem m → g.blk m ≠ g.blk n := fun h => hi.inj m n hmn h hon
      cases ob with
      | cells size c =>
        obtain ⟨arr, T, e1, e2, e3, e4, e5, e6⟩ := this
        have hlt := lt_of e1
        refine ⟨arr, T, ?_, e2, e3, e4, fun j hj => (e5 j hj).ext1 he ?_, fun o => none_of _ _ hlt (e6 o)⟩
        · rw [hb _ hlt (ne (by unfold On; rw [hm]; trivial))]; exact e1
        · simp only [Ob.lt, List.all_eq_true] at hl; exact hl _ (List.getElem_mem hj)
      | tag k t =>
        obtain ⟨arr, fz, e⟩ := this
        by_cases hkb : g.blk k = g.blk n
        · rw [hkb] at e
          obtain ⟨a', z', e'⟩ := hT _ _ _ e
          exact ⟨a', z', by rw [hkb]; exact e'⟩
        · exact ⟨arr, fz, by rw [hb _ (lt_of e) hkb]; exact e⟩
      | vec t sz es f' => exact VecOK.mono this hF rfl rfl rfl rfl (fun hh => by obtain ⟨arr, e1, _⟩ := this.2.2 hh; exact hb _ (lt_of e1) (ne (by unfold On; rw [hm]; exact hh))) (fun hh o ho => by obtain ⟨arr, e1, _⟩ := this.2.2 hh; exact none_of _ _ (lt_of e1) ho)
      | tail =>
        refine ⟨fun hh => ?_, this.2⟩
        obtain ⟨arr, T, e1, e2, e3, e4⟩ := this.1 hh
        have hlt := lt_of e1
        exact ⟨arr, T, by rw [hb _ hlt (ne (by unfold On; rw [hm]; exact hh))]; exact e1, e2, e3, fun o ho => none_of _ _ hlt (e4 o ho)⟩
      | frame sz l =>
        simp only [Ob.lt, List.all_eq_true] at hl
        exact ⟨this.1, fun s v hs => (this.2 s v hs).ext he (hl _ (look_mem hs))⟩
      | loop k ps asg body st pd =>
        obtain ⟨eb, fn, D, e⟩ := this
        exact ⟨eb, fn, D, by rw [hb _ (lt_of e) (ne (by unfold On; rw [hm]; trivial))]; exact e⟩
  · have hne : b ≠ g.blk n := by
      rintro rfl
      rcases hi.own n hon with h | h
      · omega
      · exact hm h
    rw [hb b (by have := hi.size; omega) hne]; exact hi.pres b hb' hm
  · rcases hnew _ _ _ h with h | h
    · exact hi.fnew _ _ _ h
    · have := hi.size
      exact .inr (.inl (by omega))
  · have e := hi.dfr D hD
    rw [hb D (lt_of e) (fun h => by rw [h, hdn] at e; cases e)]; exact e

section
variable {P : Program} {ti : Nat → Option Ty} {N : Nat}

theorem to_lt {n M : Nat} {kd : Bool} {v : AV} (hv : v.m1 kd = true) (hn : n < M) : (v.to n).lt M = true := by
  cases v with
  | ptr k off => simp [AV.to, AV.lt, AV.lt2, AV.lt1, AV.lt0, hn]
  | vx sz k i len => simp [AV.to, AV.lt, AV.lt2, AV.lt1, AV.lt0, hn]
  | vq sz k j off => simp [AV.to, AV.lt, AV.lt2, AV.lt1, AV.lt0, hn]
  | ms sz k off len cap => simp [AV.to, AV.lt, AV.lt2, AV.lt1, AV.lt0, hn]
  | d y => rfl
  | dg k cs => rfl
  | tup vs => exact isP_lt (v := .tup vs) hv M
  | _ => cases hv
theorem m1_lt {ob : Ob} {M : Nat} {kd : Bool} (h : ob.m1 kd = true) : ob.lt M = true := by
  cases ob with
  | cells size c =>
    simp only [Ob.m1, Bool.and_eq_true, Option.isSome_iff_exists] at h
    obtain ⟨_, ds, h⟩ := h
    obtain rfl := allD_ok h
    simp only [Ob.lt, List.all_eq_true]
    intro x hx
    obtain ⟨y, _, rfl⟩ := List.mem_map.1 hx
    rfl
  | vec t sz es f => rfl
  | _ => cases h

/-- A call by such a contract. -/
theorem CallI.byM {f n : Nat} {k : Bool} {o : Oper} {σ : S} {args l : List AV} {o0 o1 : Ob} {r : AV} {K : S → Prop} (hC : FnM P f k args o0 o1 r) (hm : look n σ.mem = some o0) (hl : l = args.map (AV.to n)) (h : K (S.put ⟨σ.sl, (n, o1) :: σ.mem, σ.nx⟩ o.dst (r.to n))) : CallI P N o σ f l K := by
  subst hl
  refine ⟨fun ⟨⟨x, xs, ats, first, cap, l', hop, hx, hl, hll⟩, hd⟩ κ g a w hst next Q hn => ?_⟩
  obtain ⟨vs, ws, hev, hsz, hav⟩ := call_vals hst hx hl
  rw [← hll] at hsz
  have hnx := (S.ok_mem hst.ok hm).1
  have hob := hst.inv.obs n _ hm
  have hon : On g σ.mem n ∧ (k = true → g.has n = true) ∧ ∃ arr T z, w.heap[g.blk n]? = some (.cells arr T z) := by
    have h0 := hC.m0
    cases o0 with
    | cells s c =>
      obtain ⟨arr, T, e1, _⟩ := hob
      exact ⟨by unfold On; rw [hm]; trivial, fun hk => by subst hk; simp [Ob.m1] at h0, arr, T, _, e1⟩
    | vec t sz es fl =>
      have hh : g.has n = true := by
        cases hq : g.has n with
        | true => rfl
        | false => have := hob.2.1 hq; subst this; simp [Ob.m1] at h0
      obtain ⟨arr, e1, _⟩ := hob.2.2 hh
      exact ⟨by unfold On; rw [hm]; exact hh, fun _ => hh, arr, t, _, e1⟩
    | _ => cases h0
  obtain ⟨hon, hhas, hdn⟩ := hon
  have hexec : (execOp a.eval o).run P w = (callFunc f (vs ++ xs.map a.eval ++ ws)).run P w := by
    simp only [execOp, hop, resolve, hev, Deferred.ofValue, pure_bind, invoke]
  have fin : ∀ e w', (∃ v F', e = Ending.returned v ∧ AVR (gh1 F' (g.blk n) (g.hi n) (g.cp n) k) (r.to 0) v ∧ (∀ b o v, g.F b o = some v → F' b o = some v) ∧
      (∀ b o v, F' b o = some v → g.F b o = some v ∨ w.heap.size ≤ b) ∧ (∀ b o v, F' b o = some v → w'.cell? ⟨b, o, none⟩ = some v) ∧ ObOK ⟨w, g.F, [], none, [], [], fun _ => #[], fun _ => 0⟩ (gh1 F' (g.blk n) (g.hi n) (g.cp n) k) w' 0 o1 ∧ (∀ arr T z, w.heap[g.blk n]? = some (.cells arr T z) → ∃ arr' z', w'.heap[g.blk n]? = some (.cells arr' T z')) ∧
      w.heap.size ≤ w'.heap.size ∧ (∀ b', b' < w.heap.size → b' ≠ g.blk n → w'.heap[b']? = w.heap[b']?) ∧ w'.os = w.os ∧ w'.tape = w.tape ∧ w'.output = w.output) → ∃ v', e = .returned v' ∧ next (a.put o.dst v') w' := by
    rintro e w' ⟨v', F', rfl, q1, q2, q3, q4, q5, qT, q6, q7, q8, q9, q10⟩
    have hi' : Inv κ { g with F := F' } ((n, o1) :: σ.mem) w' := hst.inv.growM (fun k ob h => S.ok_mem hst.ok h) hm hon q2 q6 q7 q3 q4 (q5.to (n := 0) (g := gh1 F' (g.blk n) (g.hi n) (g.cp n) k) (fun _ _ => rfl) rfl (fun _ => rfl) (fun _ => rfl) (fun hk => (hhas hk).trans hk.symm) hC.mo) qT hdn q8 q9 q10
    have hv : AVR { g with F := F' } (r.to n) v' := q1.to (n := 0) (m := n) (kd := k) (g := gh1 F' (g.blk n) (g.hi n) (g.cp n) k) (g' := { g with F := F' }) (fun _ _ _ h => h) rfl (fun _ => rfl) (fun _ => rfl) (fun hk => (hhas hk).trans hk.symm) hC.mr
    have hE : Ext σ.nx g { g with F := F' } := ⟨q2, fun _ _ => rfl, fun _ _ => rfl, fun _ _ => rfl, fun _ _ => rfl⟩
    have hmemA : ∀ p ∈ (n, o1) :: σ.mem, p.1 < σ.nx ∧ p.2.lt σ.nx = true := fun p hp => by
      rcases List.mem_cons.1 hp with rfl | hp
      · exact ⟨hnx, m1_lt hC.mo⟩
      · exact S.ok_memAll hst.ok p hp
    have hst1 : St κ N { g with F := F' } ⟨σ.sl, (n, o1) :: σ.mem, σ.nx⟩ a w' := by
      refine ⟨hst.size, hst.defers, fun k x hk => (hst.sl k x hk).ext hE (S.ok_sl hst.ok hk), hi', ?_⟩
      rw [S.ok_iff]
      exact ⟨(S.ok_iff.1 hst.ok).1, hmemA⟩
    refine ⟨v', rfl, hn { g with F := F' } _ _ _ h ?_⟩
    cases hdst : o.dst with
    | none => exact hst1
    | some d => exact hst1.put (hd d hdst) (.refl _ _) hi' hv (S.ok_cons hst1.ok (Nat.le_refl _) (to_lt hC.mr hnx) hmemA)
  rcases hC.run g.F (g.blk n) (g.hi n) (g.cp n) w (vs ++ xs.map a.eval ++ ws) hst.inv.frz (ObOK.to (kd := k) (g := g) (n := n) (m := 0) (g' := gh1 g.F (g.blk n) (g.hi n) (g.cp n) k) (fun _ _ => rfl) rfl (fun _ => rfl) (fun _ => rfl) (fun hk => hk.trans (hhas hk).symm) hC.m0 hob) (by simpa using hsz) (fun j hj => by
    have h1 := hav j (by rw [← hll]; simpa using hj)
    have e : (first ++ l' ++ cap)[j]'(by rw [← hll]; simpa using hj) = args[j].to n := by simp only [← hll]; simp
    rw [e] at h1
    exact h1.to (n := n) (m := 0) (kd := k) (g := g) (g' := gh1 g.F (g.blk n) (g.hi n) (g.cp n) k) (fun _ _ _ h => h) rfl (fun _ => rfl) (fun _ => rfl) (fun hk => hk.trans (hhas hk).symm) (List.all_eq_true.1 hC.ma _ (List.getElem_mem hj))) with ⟨hrun, hc⟩ | ⟨v', w', hrun, hc⟩
  · exact wp_enter (hexec.trans hrun) (hc.mono fun e w' he => fin e w' he)
  · obtain ⟨v'', he, hn'⟩ := fin _ _ hc
    cases he
    exact wp_value (hexec.trans hrun) hn'

/-- The end of a body with such a contract: said weaker, if one likes. -/
def finM (ti : Nat → Option Ty) (N : Nat) (rs : List ResultVar) (kp : AV) (T : Nat) (o1 : Ob) (r : AV) : Exit → S → Prop
  | .ret, σ | .normal, σ => ∃ τ, Wk N σ τ ∧ (match resL ti rs τ with | some l => resV l = r.to 0 | none => False) ∧ look 0 τ.mem = some o1 ∧ look 1 τ.mem = some (.frame 2 [(0, kp)]) ∧ look 2 τ.mem = some (.tag 0 T)
  | _, _ => False

/-- What tells where the variable lies. -/
inductive Kp (args : List AV) (o0 : Ob) : Bool → AV → Prop
  | cells : Kp args o0 false (.ptr 0 0)
  | vec (t sz len : Nat) (es : List (List D)) (fl : Bool) (rest : List AV) (ha : args = .vx sz 0 0 len :: rest) (ho : o0 = .vec t sz es fl) (h0 : 0 < sz) : Kp args o0 true (.vx sz 0 0 len)

theorem resL_val (hti : TiOK P ti) {fn : Func} {κ : Ctx} {g : Gh} {σ : S} {a : Act} {w : World} (h : St κ N g σ a w) {l : List AV} (hl : resL ti fn.results.toList σ = some l) : ∃ u, AVR g (resV l) u ∧ (results fn a.tmps).run P w = .ok u w := by
  obtain ⟨vs, h1, h2, h3⟩ := resL_ok hti h hl
  have hu : AVR g (resV l) (if hs : vs.toArray.size = 1 then vs.toArray[0] else .tuple vs.toArray) := by
    match l, vs, h1, h2 with
    | [x], [y], _, h2 => simpa [resV] using h2 0 (by simp) (by simp)
    | [], [], _, _ => exact .tup _ _ rfl fun j hj => by cases hj
    | x :: x' :: l, y :: y' :: vs, h1, h2 =>
      simp only [resV]
      rw [dif_neg (by simp)]
      refine .tup _ _ (by simpa using h1) fun j hj => ?_
      have hj' : j < (y :: y' :: vs).length := by rw [h1]; exact hj
      have := h2 j hj hj'
      have e : (y :: y' :: vs).toArray.getD j undef = (y :: y' :: vs)[j] := by
        rw [Array.getD, dif_pos (by simpa using hj')]; simp [Array.getInternal]
      rw [e]; exact this
  refine ⟨_, hu, ?_⟩
  rw [results_eq, Array.mapM_eq_mapM_toList]
  simp only [Sem.run_bind, Sem.run_map, h3, Result.andThen_ok, Sem.run_pure]

theorem FnM.intro {f : Nat} {fn : Func} {cd : Code} {k : Bool} {args : List AV} {o0 o1 : Ob} {kp r : AV} (hti : TiOK P ti) (hf : P.funcs[f]? = some fn) (hb : fn.body = some cd) (hN : fn.ntmps = N) (hcall : ∀ (vs : Array Value) (w : World), (callFunc f vs).run P w = .ok (.enter f vs) w)
    (ma : args.all (AV.m1 k) = true) (m0 : o0.m1 k = true) (mo : o1.m1 k = true) (mr : r.m1 k = true) (hlen : args.length ≤ N) (hk : Kp args o0 k kp)
    (h : ∀ T, vc P ti N cd (finM ti N fn.results.toList kp T o1 r) ⟨idx 0 (args.map (AV.to 0)), [(0, o0), (1, .frame 2 [(0, kp)]), (2, .tag 0 T)], 3⟩) : FnM P f k args o0 o1 r := by
  refine ⟨ma, m0, mo, mr, fun F b hh c w vs hfz hob hsz hav => .inl ⟨hcall vs w, ?_⟩⟩
  -- the block
  obtain ⟨arr0, T, hblk, hnone⟩ : ∃ arr T, w.heap[b]? = some (.cells arr T (0, 0)) ∧ ∀ o, F b o = none := by
    cases o0 with
    | cells s c =>
      obtain ⟨arr, T, e1, _, _, _, _, e6⟩ := hob
      exact ⟨arr, T, e1, e6⟩
    | vec t sz es fl =>
      simp only [Ob.m1, Bool.and_eq_true] at m0
      obtain ⟨arr, e1, _, _, _, e5, _⟩ := hob.2.2 m0.1
      exact ⟨arr, t, e1, e5⟩
    | _ => cases m0
  -- the kept value
  obtain ⟨kv, hkv, hkeep⟩ : ∃ kv, AVR (gh1 F b hh c k) kp kv ∧ ∀ g' : Gh, AVR g' kp kv → g'.blk 0 = b ∧ (k = true → g'.hi 0 = hh ∧ g'.cp 0 = c ∧ g'.has 0 = true) := by
    cases hk with
    | cells => exact ⟨_, .ptr 0 0, fun g' h' => ⟨by cases h'; rfl, fun h => by cases h⟩⟩
    | vec t sz len es fl rest ha ho h0 =>
      have h1 := hav 0 (by rw [ha]; simp)
      have e : (args[0]'(by rw [ha]; simp)).to 0 = .vx sz 0 0 len := by simp only [ha]; rfl
      rw [e] at h1
      refine ⟨_, h1, fun g' h' => ?_⟩
      generalize vs.getD 0 undef = q at h1 h'
      cases h1 with | vx _ _ _ _ ad cc hc had => ?_
      cases h' with | vx _ _ _ _ _ _ hc' had' => ?_
      subst ho
      simp only [Ob.m1, Bool.and_eq_true, Nat.blt_eq] at m0
      obtain ⟨arr, e1, _, e3, _⟩ := hob.2.2 rfl
      have h2 : (0 + cc) * sz = c := had.1 rfl
      have h3 : es.length * sz ≤ c := e3
      have h4 : 1 * sz ≤ es.length * sz := Nat.mul_le_mul_right _ m0.2
      have hcc : 0 < cc := by
        rcases Nat.eq_zero_or_pos cc with h | h
        · subst h; simp at h2; omega
        · exact h
      obtain ⟨_, a1, a2⟩ := had.pos hcc
      obtain ⟨b0, b1, b2⟩ := had'.pos hcc
      rw [a1] at b1
      simp only [Option.some.injEq, Addr.mk.injEq, and_true] at b1
      obtain ⟨b3, b4⟩ := b1
      exact ⟨b3.symm, fun _ => ⟨by have : hh + 0 * sz = g'.hi 0 + 0 * sz := b4; omega, b2.symm.trans h2, b0⟩⟩
  have hst : St ⟨w, F, [b], none, [], [], fun _ => #[kv], fun _ => 0⟩ N (gh1 F b hh c k) ⟨idx 0 (args.map (AV.to 0)), [(0, o0), (1, .frame 2 [(0, kp)]), (2, .tag 0 T)], 3⟩ { tmps := vs ++ Array.replicate (fn.ntmps - vs.size) undef, defers := [] } w := by
    have hl0 : ∀ n, look n [(0, o0), (1, Ob.frame 2 [(0, kp)]), (2, .tag 0 T)] = if n = 0 then some o0 else if n = 1 then some (.frame 2 [(0, kp)]) else if n = 2 then some (.tag 0 T) else none := fun n => by
      rw [look_cons, look_cons, look_cons]; rfl
    have hon : ∀ n, On (gh1 F b hh c k) [(0, o0), (1, Ob.frame 2 [(0, kp)]), (2, .tag 0 T)] n → n = 0 := fun n h => by
      unfold On at h
      rw [hl0] at h
      by_cases h0 : n = 0
      · exact h0
      · rw [if_neg h0] at h
        by_cases h1 : n = 1
        · rw [if_pos h1] at h; exact h.elim
        · rw [if_neg h1] at h
          by_cases h2 : n = 2
          · rw [if_pos h2] at h; exact h.elim
          · rw [if_neg h2] at h; exact h.elim
    have hkl : kp.lt1 3 = true := by cases hk <;> rfl
    refine ⟨by simp; omega, rfl, fun j v hj => ?_, ⟨hfz, fun n ob hn => ?_, fun n m hnm h1 h2 => absurd ((hon n h1).trans (hon m h2).symm) hnm, Nat.le_refl _, fun _ _ _ => rfl, fun n h1 => .inr (by simp [gh1]), fun _ _ _ h => h, fun _ _ _ h => .inl h, rfl, rfl, rfl, fun D hD => by cases hD⟩, ?_⟩
    · obtain ⟨h1, _, h3⟩ := look_idx _ 0 j v hj
      simp only [Nat.sub_zero] at h1 h3
      subst h3
      have hj' : j < args.length := by simpa using h1
      have := hav j hj'
      have e : (vs ++ Array.replicate (fn.ntmps - vs.size) undef).getD j undef = vs.getD j undef := by
        have hk1 : j < vs.size := by omega
        rw [Array.getD, dif_pos (by simp; omega), Array.getD, dif_pos hk1]
        exact Array.getElem_append_left hk1
      simp only [e, List.getElem_map]
      exact this
    · rw [hl0] at hn
      by_cases h0 : n = 0
      · subst h0
        rw [if_pos rfl] at hn
        obtain rfl := Option.some.inj hn
        exact ObOK.to (kd := k) (n := 0) (m := 0) (fun _ _ => rfl) rfl (fun _ => rfl) (fun _ => rfl) (fun _ => rfl) m0 hob
      · rw [if_neg h0] at hn
        by_cases h1 : n = 1
        · subst h1
          rw [if_pos rfl] at hn
          obtain rfl := Option.some.inj hn
          refine ⟨fun m hm => by obtain rfl : m = 1 := by omega
                                 rfl, fun s v hs => ?_⟩
          rw [look_cons] at hs
          by_cases hs0 : s = 0
          · subst hs0; rw [if_pos rfl] at hs; obtain rfl := Option.some.inj hs; exact hkv
          · rw [if_neg hs0] at hs; cases hs
        · rw [if_neg h1] at hn
          by_cases h2 : n = 2
          · subst h2
            rw [if_pos rfl] at hn
            obtain rfl := Option.some.inj hn
            exact ⟨arr0, (0, 0), hblk⟩
          · rw [if_neg h2] at hn; cases hn
    · rw [S.ok_iff]
      refine ⟨fun p hp => ?_, fun p hp => ?_⟩
      · obtain ⟨v, hv, he⟩ := List.mem_map.1 (idx_mem _ _ _ hp)
        rw [← he]
        exact to_lt (kd := k) (List.all_eq_true.1 ma v hv) (show 0 < 3 by decide)
      · simp only [List.mem_cons, List.mem_nil_iff, or_false] at hp
        rcases hp with rfl | rfl | rfl
        · exact ⟨show 0 < 3 by decide, m1_lt m0⟩
        · refine ⟨show 1 < 3 by decide, ?_⟩
          simp only [Ob.lt, List.all_cons, List.all_nil, Bool.and_true]
          cases hk <;> rfl
        · exact ⟨show 2 < 3 by decide, rfl⟩
  refine calls_of_vc hti hf hb hN rfl rfl (h T) hst (fun e σ hq => ?_) fun e g' σ' a' w' hq hst' => ?_
  · cases e with
    | ret => exact .inl rfl
    | normal => exact .inr rfl
    | _ => exact hq.elim
  · have hq' : ∃ τ, Wk N σ' τ ∧ (match resL ti fn.results.toList τ with | some l => resV l = r.to 0 | none => False) ∧ look 0 τ.mem = some o1 ∧ look 1 τ.mem = some (.frame 2 [(0, kp)]) ∧ look 2 τ.mem = some (.tag 0 T) := by
      cases e with
      | ret => exact hq
      | normal => exact hq
      | _ => exact hq.elim
    obtain ⟨τ, hwk, hres, ho1, hfr, htg⟩ := hq'
    obtain ⟨g2, hst2⟩ := hwk.run _ _ _ _ hst'
    cases hl : resL ti fn.results.toList τ with
    | none => rw [hl] at hres; exact hres.elim
    | some l =>
      rw [hl] at hres
      obtain ⟨u, hu, hrun⟩ := resL_val hti hst2 hl
      rw [hres] at hu
      have hi := hst2.inv
      have hkv2 : AVR g2 kp kv := by
        have := (hi.obs 1 _ hfr).2 0 kp (by rw [look_cons, if_pos rfl])
        exact this
      obtain ⟨k1, k2⟩ := hkeep g2 hkv2
      have hob1 := hi.obs 0 _ ho1
      have ho1' : ObOK ⟨w, F, [], none, [], [], fun _ => #[], fun _ => 0⟩ (gh1 g2.F b hh c k) w' 0 o1 := ObOK.to (kd := k) (g := g2) (g' := gh1 g2.F b hh c k) (n := 0) (m := 0) (fun _ _ => rfl) k1.symm (fun h => (k2 h).1.symm) (fun h => (k2 h).2.1.symm) (fun h => h.trans (k2 h).2.2.symm) mo hob1
      have hF1 : ∀ o, g2.F b o = none := by
        cases o1 with
        | cells s c' => obtain ⟨_, _, _, _, _, _, _, e6⟩ := ho1'; exact e6
        | vec t sz es fl =>
          simp only [Ob.m1, Bool.and_eq_true] at mo
          obtain ⟨_, _, _, _, _, e5, _⟩ := ho1'.2.2 mo.1
          exact e5
        | _ => cases mo
      refine ⟨u, hrun, u, g2.F, rfl, AVR.to (kd := k) (g := g2) (g' := gh1 g2.F b hh c k) (n := 0) (m := 0) (fun _ _ _ h => h) k1.symm (fun h => (k2 h).1.symm) (fun h => (k2 h).2.1.symm) (fun h => h.trans (k2 h).2.2.symm) mr hu, hi.f0, fun b' o v hv => ?_, hi.frz, ho1', fun arr T' z hw => ?_, hi.size, fun b' hb' hne => hi.pres b' hb' (by simpa using hne), hi.os, hi.tape, hi.output⟩
      · rcases hi.fnew b' o v hv with h | h | h
        · exact .inl h
        · exact .inr h
        · simp only [List.mem_singleton] at h
          subst h
          rw [hF1 o] at hv; cases hv
      · rw [hblk] at hw
        cases hw
        obtain ⟨arr, fz, e⟩ := hi.obs 2 _ htg
        exact ⟨arr, fz, by rw [← k1]; exact e⟩
end
end Go.Sy

/- Contracts in the words of slices.Sort's shelf, as contracts of a vector. Conditions: none. -/
namespace Go.Sy
open Go.Sort
set_option linter.unusedVariables false
set_option linter.unusedSimpArgs false
section
variable {P : Program} {α : Type} [Inhabited α]

theorem heap_row (enc : α → Value) (w : World) (n b off : Nat) (d : Array α) (os : Array Obj) (k : Nat) (hk : k < w.heap.size) :
    (grow (putRow enc (Go.Sort.ahead w n) b off d) os).heap[k]? = if b = k then (w.heap[k]?).map (onCells (putCells enc off d)) else w.heap[k]? := by
  have e : (grow (putRow enc (Go.Sort.ahead w n) b off d) os).heap = w.heap.modify b (onCells (putCells enc off d)) ++ os := rfl
  rw [e, Array.getElem?_append_left (by simpa using hk), Array.getElem?_modify]

/-- Where a function's contract is in the words of rows. -/
theorem FnM.ofRow {f t : Nat} {fl : Bool} (enc : α → Value) (encD : α → D) (henc : ∀ (F : Nat → Nat → Option Value) x, DR F (encD x) (enc x)) (hinv : ∀ (F : Nat → Nat → Option Value) x v, DR F (encD x) v → v = enc x) {zs zs' : List α} {m : Option Nat} (hl : zs'.length = zs.length) (h0 : 0 < zs.length) (hm : ∀ q, m = some q → q ≤ zs.length)
    (hcall : ∀ (vs : Array Value) (w : World), (callFunc f vs).run P w = .ok (.enter f vs) w)
    (hC : ∀ (blk off cap : Nat) (w : World), Holds enc w blk off zs.toArray → blk < w.heap.size → zs.length ≤ cap → Calls P f #[.slice (some ⟨blk, off, none⟩) zs.length cap] w fun e w' =>
      e = .returned (match m with | none => .tuple #[] | some q => .slice (some ⟨blk, off, none⟩) q cap) ∧ ∃ n os, w' = grow (putRow enc (Go.Sort.ahead w n) blk off zs'.toArray) os) :
    FnM P f true [.vx 1 0 0 zs.length] (.vec t 1 (zs.map fun z => [encD z]) fl) (.vec t 1 (zs'.map fun z => [encD z]) fl) (match m with | none => .tup [] | some q => .vx 1 0 0 q) := by
  refine ⟨rfl, by simp [Ob.m1]; exact h0, by simp [Ob.m1, hl]; exact h0, by cases m <;> rfl, fun F b h c w vs hfz hob hsz hav => .inl ⟨hcall vs w, ?_⟩⟩
  obtain ⟨v1, v2, v3⟩ := hob
  obtain ⟨arr, e1, e2, e3, e4, e5, e6, e7⟩ := v3 rfl
  have e1 : w.heap[b]? = some (.cells arr t (0, 0)) := e1
  have e2 : h + c ≤ arr.size := e2
  have e3 : (zs.map fun z => [encD z]).length * 1 ≤ c := e3
  have e3 : zs.length ≤ c := by simpa using e3
  have e5 : ∀ o, F b o = none := e5
  have hbl : b < w.heap.size := by
    rcases Nat.lt_or_ge b w.heap.size with h' | h'
    · exact h'
    · rw [Array.getElem?_eq_none h'] at e1; cases e1
  have hcell : ∀ j (hj : j < zs.length), arr.getD (h + j) undef = enc zs[j] := fun j hj => by
    have := e4 j (by simpa using hj) 0 (by simp)
    simp only [List.getElem_map, List.getElem_singleton, Nat.mul_one, Nat.add_zero] at this
    exact hinv _ _ _ this
  obtain ⟨u, hvs⟩ : ∃ u, vs = #[u] := by
    obtain ⟨l⟩ := vs
    match l, hsz with
    | [u], _ => exact ⟨u, rfl⟩
  subst hvs
  have hu : AVR (gh1 F b h c true) (.vx 1 0 0 zs.length) u := hav 0 (by simp)
  cases hu with | vx _ _ _ _ ad cc hc had => ?_
  obtain ⟨_, rfl, hcp⟩ := had.pos (by omega)
  have hcp : (0 + cc) * 1 = c := hcp
  have hH : Holds enc w b h zs.toArray := fun j hj => by
    have hj' : j < zs.length := by simpa using hj
    refine ⟨?_, by simp [World.frozen?, e1]⟩
    have hlt : h + j < arr.size := by omega
    have := hcell j hj'
    rw [Array.getD, dif_pos hlt] at this
    have hz : zs.toArray[j]! = zs[j] := by simp [hj']
    rw [hz, ← this]
    simp [World.cell?, e1, hlt]
  have ead : (⟨(gh1 F b h c true).blk 0, (gh1 F b h c true).hi 0 + 0 * 1, none⟩ : Addr) = ⟨b, h, none⟩ := by simp [gh1]
  rw [ead]
  refine (hC b h cc w hH hbl (by omega)).mono ?_
  rintro e w' ⟨rfl, n, os, rfl⟩
  have hb1 : (grow (putRow enc (Go.Sort.ahead w n) b h zs'.toArray) os).heap[b]? = some (.cells (putCells enc h zs'.toArray arr) t (0, 0)) := by
    rw [heap_row _ _ _ _ _ _ _ _ hbl, if_pos rfl, e1]; rfl
  have hpz : (putCells enc h zs'.toArray arr).size = arr.size := by simp [putCells]
  have hpc : ∀ q, q < arr.size → (putCells enc h zs'.toArray arr).getD q undef = if h ≤ q ∧ q < h + zs'.length then enc (zs'.toArray[q - h]!) else arr.getD q undef := fun q hq => by
    rw [Array.getD, dif_pos (by rw [hpz]; exact hq)]
    simp [putCells, Array.getD, hq]
  have hvec : VecOK (gh1 F b h c true) (grow (putRow enc (Go.Sort.ahead w n) b h zs'.toArray) os) 0 t 1 (zs'.map fun z => [encD z]) fl := by
    have hh1 : (gh1 F b h c true).has 0 = false → (zs'.map fun z => [encD z]) = [] := fun h => by cases h
    refine ⟨fun x hx => ?_, hh1, fun _ => ⟨_, hb1, ?_, ?_, fun i hi j hj => ?_, e5, fun hf => ?_, fun j hj => ?_⟩⟩
    · obtain ⟨z, _, rfl⟩ := List.mem_map.1 hx; rfl
    · rw [hpz]; exact e2
    · show (zs'.map fun z => [encD z]).length * 1 ≤ c
      simpa [hl] using e3
    · simp only [List.getElem_map, List.length_singleton] at hj ⊢
      obtain rfl : j = 0 := by omega
      have hi' : i < zs'.length := by simpa using hi
      show DR F (encD zs'[i]) ((putCells enc h zs'.toArray arr).getD (h + i * 1 + 0) undef)
      rw [hpc _ (by omega), if_pos (by omega)]
      have : zs'.toArray[h + i * 1 + 0 - h]! = zs'[i] := by
        have e : h + i * 1 + 0 - h = i := by omega
        rw [e]; simp [hi']
      rw [this]; exact henc _ _
    · have := e6 hf
      show (zs'.map fun z => [encD z]).length * 1 = c
      have h2 : (zs.map fun z => [encD z]).length * 1 = c := this
      simpa [hl] using h2
    · show ((putCells enc h zs'.toArray arr).getD (h + j) undef).oneCell' = true
      have hj : j < c := hj
      rw [hpc _ (by omega)]
      split
      · exact (henc F _).one
      · exact e7 j hj
  refine ⟨_, F, rfl, ?_, fun _ _ _ h => h, fun _ _ _ h => .inl h, fun b' o v hv => ?_, hvec, fun arr' T z hw => ?_, ?_, fun b' hb' hne => ?_, rfl, rfl, rfl⟩
  · cases m with
    | none => exact .tup [] #[] rfl fun j hj => by cases hj
    | some q =>
      have hq := hm q rfl
      rw [← ead]
      exact .vx 1 0 0 q _ cc (by omega) had
  · have hne : b' ≠ b := by
      rintro rfl
      rw [e5] at hv; cases hv
    have h1 := hfz b' o v hv
    have hlt : b' < w.heap.size := by
      rcases Nat.lt_or_ge b' w.heap.size with h' | h'
      · exact h'
      · simp [World.cell?, Array.getElem?_eq_none h'] at h1
    have h2 := heap_row enc w n b h zs'.toArray os b' hlt
    rw [if_neg (Ne.symm hne)] at h2
    simpa [World.cell?, h2] using h1
  · rw [e1] at hw
    cases hw
    exact ⟨_, _, hb1⟩
  · simp [Go.Sort.ahead]
  · rw [heap_row _ _ _ _ _ _ _ _ hb', if_neg (Ne.symm hne)]
end
end Go.Sy

/- Drawn regions: all orders meet again in one state. Conditions: none. -/
namespace Go.Sy
section
variable {P : Program} {ti : Nat → Option Ty} {N : Nat}
/-- Whatever the order, one state is reached (said weaker, if one likes); on from there. -/
theorem DrawS.join {id : Nat} {ops : List Oper} {σ : S} {K : S → Prop} (τ : S) (h : DrawS P ti N id ops σ fun σ' => Wk N σ' τ) (hk : K τ) : DrawS P ti N id ops σ K := by
  refine ⟨fun κ g a w hr hst => wpIn_mono (h.run κ g a w hr hst) fun e a' w' ⟨l, g', σ', hl, hq, hst'⟩ => ?_⟩
  cases e with
  | normal =>
    obtain ⟨g2, h2⟩ := Wk.run hq _ _ _ _ hst'
    exact ⟨l, g2, τ, hl, hk, h2⟩
  | _ => exact False.elim hq
end
end Go.Sy

/- Looks at a goal's head. Conditions: none. -/
namespace Go.Sy
theorem callE_id {A B : Prop} (h : CallE A B) : CallE A B := h
theorem letC_id {e : List AV} {K : List AV → Prop} (h : LetC e K) : LetC e K := h
theorem nils_id {A B : Prop} (h : NilS A B) : NilS A B := h
theorem exi_id {α : Type} {p : α → Prop} (h : ∃ x, p x) : ∃ x, p x := h
section
variable {P : Program} {ti : Nat → Option Ty} {N : Nat}
theorem drawS_id {id : Nat} {ops : List Oper} {σ : S} {K : S → Prop} (h : DrawS P ti N id ops σ K) : DrawS P ti N id ops σ K := h
theorem callI_id {o : Oper} {σ : S} {f : Nat} {l : List AV} {K : S → Prop} (h : CallI P N o σ f l K) : CallI P N o σ f l K := h
end
end Go.Sy

/- Drawn regions in which a new variable may be laid at any time. Conditions: none. -/
namespace Go.Sy
set_option linter.unusedVariables false
set_option linter.unusedSimpArgs false
section
variable {P : Program} {ti : Nat → Option Ty} {N : Nat}
theorem look_app {α : Type} (n : Nat) : ∀ (l m : List (Nat × α)), look n (l ++ m) = match look n l with | some x => some x | none => look n m
  | [], m => rfl
  | (a, b) :: t, m => by
    show look n ((a, b) :: (t ++ m)) = _
    rw [look_cons, look_cons]
    by_cases h : n = a
    · rw [if_pos h, if_pos h]
    · rw [if_neg h, if_neg h]; exact look_app n t m
/-- New variables: named from nx on, below nx'. -/
structure ExtOK (nx nx' : Nat) (ext : List (Nat × Ob)) : Prop where
  at_ : ∀ n ob, look n ext = some ob → nx ≤ n ∧ n < nx' ∧ ob.lt nx' = true ∧ (match ob with | .cells .. => True | .tag m _ => nx ≤ m ∧ ∃ s c, look m ext = some (.cells s c) | _ => False)
/-- What an operation does it does beside other variables. -/
theorem Does.frame {mem ext : List (Nat × Ob)} {nx nx' : Nat} {r : Operand → Option AV} {o : Oper} {av : AV} (h : Does P mem nx r o av) (hn' : nx ≤ nx') (hm : ∀ n ob, look n mem = some ob → n < nx ∧ ob.lt nx = true) (he : ExtOK nx nx' ext) : Does P (ext ++ mem) nx' r o av := by
  refine ⟨AV.lt_mono h.1 hn', fun κ g a w hi hops next Q hn => ?_⟩
  classical
  let md : List Nat := ((mem.map Prod.fst).filter fun n => decide (On g mem n)).map g.blk
  let κ' : Ctx := { κ with w0 := w, F0 := g.F, mod := md }
  have inMem : ∀ n ob, look n mem = some ob → look n (ext ++ mem) = some ob := fun n ob hl => by
    rw [look_app]
    cases hx : look n ext with
    | none => exact hl
    | some x => have := (he.at_ n x hx).1; have := (hm n ob hl).1; omega
  have onUp : ∀ n, On g mem n → On g (ext ++ mem) n := fun n h => by
    unfold On at h ⊢
    cases hl : look n mem with
    | none => rw [hl] at h; exact h.elim
    | some ob => rw [inMem n ob hl]; rw [hl] at h; exact h
  have mdIn : ∀ b, b ∈ md → ∃ n, On g mem n ∧ g.blk n = b := fun b hb => by
    obtain ⟨n, h1, h2⟩ := List.mem_map.1 hb
    exact ⟨n, by simpa using (List.mem_filter.1 h1).2, h2⟩
  have mdOf : ∀ n, On g mem n → g.blk n ∈ md := fun n h => by
    refine List.mem_map.2 ⟨n, List.mem_filter.2 ⟨?_, by simpa using h⟩, rfl⟩
    unfold On at h
    cases hl : look n mem with
    | none => rw [hl] at h; exact h.elim
    | some ob => exact List.mem_map.2 ⟨_, look_mem hl, rfl⟩
  have mdOwn : ∀ b, b ∈ md → κ.w0.heap.size ≤ b ∨ b ∈ κ.mod := fun b hb => by
    obtain ⟨n, h1, rfl⟩ := mdIn b hb
    exact hi.own n (onUp n h1)
  have hi' : Inv κ' g mem w := ⟨hi.frz, fun n ob hl => by
      have := hi.obs n ob (inMem n ob hl)
      cases ob <;> exact this,
    fun n m hnm h h' => hi.inj n m hnm (onUp n h) (onUp m h'), Nat.le_refl _, fun _ _ _ => rfl, fun n h => .inr (mdOf n h), fun _ _ _ h => h, fun _ _ _ h => .inl h, rfl, rfl, rfl, hi.dfr⟩
  refine h.2 κ' g a w hi' hops next Q (fun g' v w' he' hi2 hv => ?_)
  let g'' : Gh := ⟨g'.F, fun n => if n < nx then g'.blk n else g.blk n, fun n => if n < nx then g'.hi n else g.hi n, fun n => if n < nx then g'.cp n else g.cp n, fun n => if n < nx then g'.has n else g.has n⟩
  have e1 : Ext nx g' g'' := ⟨fun _ _ _ h => h, fun n hn => if_pos hn, fun n hn => if_pos hn, fun n hn => if_pos hn, fun n hn => if_pos hn⟩
  have eB : ∀ n, g''.blk n = g.blk n := fun n => by
    show (if n < nx then g'.blk n else g.blk n) = _
    split
    · exact he'.blk n (by assumption)
    · rfl
  have eH : ∀ n, g''.has n = g.has n := fun n => by
    show (if n < nx then g'.has n else g.has n) = _
    split
    · exact he'.has n (by assumption)
    · rfl
  have e2 : Ext nx' g g'' := ⟨he'.F, fun n _ => eB n, fun n _ => by
      show (if n < nx then g'.hi n else g.hi n) = _
      split
      · exact he'.hi n (by assumption)
      · rfl, fun n _ => by
      show (if n < nx then g'.cp n else g.cp n) = _
      split
      · exact he'.cp n (by assumption)
      · rfl, fun n _ => eH n⟩
  have J : Inv κ' g'' mem w' := hi2.grow hm e1 (Nat.le_refl _) (fun _ _ => rfl) (fun _ _ _ h => .inl h) hi2.frz rfl rfl rfl
  have onDn : ∀ n, On g'' (ext ++ mem) n → On g (ext ++ mem) n := fun n h => by
    unfold On at h ⊢
    cases hl : look n (ext ++ mem) with
    | none => rw [hl] at h; exact h.elim
    | some ob =>
      rw [hl] at h
      cases ob with
      | tail => show g.has n = true; rw [← eH]; exact h
      | vec => show g.has n = true; rw [← eH]; exact h
      | cells => trivial
      | loop => trivial
      | tag => exact h
      | frame => exact h
  have same : ∀ n s c, look n ext = some (.cells s c) → w'.heap[g.blk n]? = w.heap[g.blk n]? ∧ (∀ o, g.F (g.blk n) o = none → g''.F (g.blk n) o = none) ∧ ∃ arr T z, w.heap[g.blk n]? = some (.cells arr T z) := fun n s c hl => by
    have hl' : look n (ext ++ mem) = some (.cells s c) := by rw [look_app, hl]
    have hon : On g (ext ++ mem) n := by unfold On; rw [hl']; trivial
    obtain ⟨arr, T, h1, _⟩ := hi.obs n _ hl'
    have hlt : g.blk n < w.heap.size := by
      rcases Nat.lt_or_ge (g.blk n) w.heap.size with h' | h'
      · exact h'
      · rw [Array.getElem?_eq_none h'] at h1; cases h1
    have hnm : g.blk n ∉ md := fun hb => by
      obtain ⟨m, h2, h3⟩ := mdIn _ hb
      have hmn : m ≠ n := fun h => by
        subst h
        unfold On at h2
        cases hl2 : look m mem with
        | none => rw [hl2] at h2; exact h2
        | some ob => have := (hm m ob hl2).1; have := (he.at_ m _ hl).1; omega
      exact hi.inj m n hmn (onUp m h2) hon h3
    refine ⟨J.pres _ hlt hnm, fun o ho => ?_, arr, T, _, h1⟩
    cases hq : g''.F (g.blk n) o with
    | none => rfl
    | some v =>
      rcases J.fnew _ _ _ hq with h | h | h
      · rw [show κ'.F0 = g.F from rfl, ho] at h; cases h
      · have h' : w.heap.size ≤ g.blk n := h
        omega
      · exact (hnm h).elim
  refine hn g'' v w' e2 ⟨J.frz, fun n ob hl => ?_, fun n m hnm h h' => ?_, Nat.le_trans hi.size J.size, fun b hb hbm => ?_, fun n h => ?_, fun b o v h => J.f0 b o v (hi.f0 b o v h), fun b o v h => ?_, J.os.trans hi.os, J.tape.trans hi.tape, J.output.trans hi.output, J.dfr⟩ (hv.ext e1 h.1)
  · have hl2 := hl
    rw [look_app] at hl
    cases hx : look n ext with
    | none =>
      rw [hx] at hl
      have := J.obs n ob hl
      cases ob <;> exact this
    | some x =>
      rw [hx] at hl
      obtain rfl : x = ob := Option.some.inj hl
      obtain ⟨q1, q2, q3, q4⟩ := he.at_ n x hx
      cases x with
      | cells s c =>
        obtain ⟨arr, T, h1, h2, h3, h4, h5, h6⟩ := hi.obs n _ hl2
        obtain ⟨s1, s2, _⟩ := same n s c hx
        refine ⟨arr, T, by rw [eB, s1]; exact h1, h2, h3, h4, fun j hj => (h5 j hj).ext1 e2 ?_, fun o => by rw [eB]; exact s2 o (h6 o)⟩
        simp only [Ob.lt, List.all_eq_true] at q3
        exact q3 _ (List.getElem_mem hj)
      | tag m t =>
        obtain ⟨_, s, c, hm'⟩ := q4
        obtain ⟨arr, fz, h1⟩ := hi.obs n _ hl2
        exact ⟨arr, fz, by rw [eB, (same m s c hm').1]; exact h1⟩
      | tail => exact q4.elim
      | vec => exact q4.elim
      | frame => exact q4.elim
      | loop => exact q4.elim
  · rw [eB, eB]; exact hi.inj n m hnm (onDn n h) (onDn m h')
  · have : b ∉ md := fun hb' => by
      rcases mdOwn b hb' with h | h
      · omega
      · exact hbm h
    exact (J.pres b (Nat.lt_of_lt_of_le hb hi.size) this).trans (hi.pres b hb hbm)
  · rw [eB]; exact hi.own n (onDn n h)
  · rcases J.fnew b o v h with h | h | h
    · exact hi.fnew b o v h
    · exact .inr (.inl (Nat.le_trans hi.size h))
    · exact .inr (mdOwn b h)
theorem Yl.frame {all : List Oper} {mem ext : List (Nat × Ob)} {nx nx' : Nat} {sl : List (Nat × AV)} {o : Oper} {v : AV} (h : Yl P all mem nx sl o v) (hn' : nx ≤ nx') (hm : ∀ n ob, look n mem = some ob → n < nx ∧ ob.lt nx = true) (he : ExtOK nx nx' ext) : Yl P all (ext ++ mem) nx' sl o v := by
  unfold Yl at h ⊢
  split at h
  · exact h.frame hn' hm he
  · obtain ⟨e, h1, h2⟩ := h
    refine ⟨e, h1, ?_⟩
    rcases h2 with ⟨b, k1, k2, k3⟩ | h2
    · exact .inl ⟨b, k1, fun hb => (k2 hb).frame hn' hm he, k3⟩
    · exact .inr h2

/-- The new variable's objects. -/
def newObs (nx e : Nat) (ty : Ty) : List (Nat × Ob) :=
  match ty.kd with
  | .struct _ => [(nx + 1, .tag nx e), (nx, .cells ty.size (ty.zero.map toA))]
  | _ => [(nx, .cells ty.size (ty.zero.map toA))]
def newNx (nx : Nat) (ty : Ty) : Nat :=
  match ty.kd with
  | .struct _ => nx + 2
  | _ => nx + 1
theorem newObs_ok (nx e : Nat) (ty : Ty) : ExtOK nx (newNx nx ty) (newObs nx e ty) ∧ nx < newNx nx ty := by
  have hc : ∀ m, (Ob.cells ty.size (ty.zero.map toA)).lt m = true := fun m => by
    simp only [Ob.lt, List.all_eq_true]
    intro x hx
    obtain ⟨y, _, rfl⟩ := List.mem_map.1 hx; exact toA_lt _ _
  unfold newObs newNx
  split
  · refine ⟨⟨fun n ob hl => ?_⟩, by omega⟩
    rw [look_cons, look_cons] at hl
    by_cases h1 : n = nx + 1
    · rw [if_pos h1] at hl
      obtain rfl := Option.some.inj hl
      refine ⟨by omega, by omega, by simp [Ob.lt], Nat.le_refl _, ty.size, ty.zero.map toA, ?_⟩
      rw [look_cons, if_neg (by omega), look_cons, if_pos rfl]
    · rw [if_neg h1] at hl
      by_cases h2 : n = nx
      · rw [if_pos h2] at hl
        obtain rfl := Option.some.inj hl
        exact ⟨by omega, by omega, hc _, trivial⟩
      · rw [if_neg h2] at hl; cases hl
  · refine ⟨⟨fun n ob hl => ?_⟩, by omega⟩
    rw [look_cons] at hl
    by_cases h2 : n = nx
    · rw [if_pos h2] at hl
      obtain rfl := Option.some.inj hl
      exact ⟨by omega, by omega, hc _, trivial⟩
    · rw [if_neg h2] at hl; cases hl
theorem newObs_mem {nx e : Nat} {ty : Ty} : ∀ p ∈ newObs nx e ty, p.1 < newNx nx ty ∧ p.2.lt (newNx nx ty) = true := by
  have hc : ∀ m, (Ob.cells ty.size (ty.zero.map toA)).lt m = true := fun m => by
    simp only [Ob.lt, List.all_eq_true]
    intro x hx
    obtain ⟨y, _, rfl⟩ := List.mem_map.1 hx; exact toA_lt _ _
  unfold newObs newNx
  split
  · intro p hp
    simp only [List.mem_cons, List.not_mem_nil, or_false] at hp
    rcases hp with rfl | rfl
    · exact ⟨by show nx + 1 < nx + 2; omega, by simp [Ob.lt]⟩
    · exact ⟨by show nx < nx + 2; omega, hc _⟩
  · intro p hp
    simp only [List.mem_cons, List.not_mem_nil, or_false] at hp
    subst hp
    exact ⟨by show nx < nx + 1; omega, hc _⟩
/-- The new variable is laid. -/
theorem alloc_step {o : Oper} {e nx : Nat} {ty : Ty} {mem : List (Nat × Ob)} (hti : TiOK P ti) (hop : o.op = .alloc e) (ht : ti e = some ty) (hz : ty.zero.length = ty.size) (h0 : 0 < ty.size) {κ : Ctx} {g : Gh} {a : Act} {w : World} (hi : Inv κ g mem w) (hok : (S.mk [] mem nx).ok = true)
    {next : Act → World → Prop} {Q : Exit → Act → World → Prop} (hn : ∀ g' u w', Ext nx g g' → Inv κ g' (newObs nx e ty ++ mem) w' → AVR g' (.ptr nx 0) u → next (a.put o.dst u) w') : o.wpIn (wd κ.rd) 0 P a w next Q := by
  obtain ⟨u, i, ht'⟩ := tyOf_ok (hti _ _ ht)
  obtain ⟨zv, hzv, hLR, hLA⟩ := zeroL_ok (g := g) (z := i.zero) (h := slH P 6 e) (by rw [ht'.zero]; omega)
  rw [ht'.zero] at hLR hLA
  have hlt : ∀ x ∈ ty.zero.map toA, x.lt1 nx = true := fun x hx => by obtain ⟨y, _, rfl⟩ := List.mem_map.1 hx; exact toA_lt _ _
  have hsz : zv.cells.size = ty.size := by rw [← hLR.1, hz]
  have hr : (execOp a.eval o).run P w = .ok (.value (.pointer (some ⟨w.heap.size, 0, none⟩))) (w.alloc (.cells zv.cells e)) := by
    simp only [execOp, hop, Instr.alloc, newVar, newRow, zeroValue, Sem.run_bind, run_typeInfo' ht'.info, hzv, run_newObj, Sem.run_pure, Result.andThen_ok]
    rfl
  obtain ⟨g', he, hb, hi'⟩ := hi.newCells (σ := S.mk [] mem nx) (w' := w.alloc (.cells zv.cells e)) hok rfl rfl rfl rfl (by rw [List.length_map, hz]; exact hsz.symm) (fun j hj => by simp only [List.getElem_map]; exact toA_sc _) hlt hLA.2
  rw [hsz] at hi'
  refine wp_value hr (hn g' _ _ he ?_ (by rw [← hb]; exact .ptr _ _))
  unfold newObs
  split
  · exact hi'.addTag (n := nx + 1) (m := nx) (t := e) (arr := zv.cells) (fz := (0, 0)) (by rw [hb]; exact World.alloc_heap_new _ _)
  · exact hi'
def unAlloc (o : Oper) : Oper := { o with op := .move (.const (.int .i64 0)) }
theorem gslot_set {ops : List Oper} {h : Nat} {o : Oper} (ho : ops[h]? = some o) (j : Nat) : gslot (ops.set h (unAlloc o)) j = gslot ops j := by
  unfold gslot
  rw [List.getElem?_set]
  by_cases hj : h = j
  · subst hj
    rw [if_pos rfl, if_pos (List.getElem?_eq_some_iff.1 ho).1, ho]; rfl
  · rw [if_neg hj]
theorem Yl.all {a b : List Oper} {mem : List (Nat × Ob)} {nx : Nat} {sl : List (Nat × AV)} {o : Oper} {v : AV} (hg : ∀ j, gslot a j = gslot b j) (h : Yl P a mem nx sl o v) : Yl P b mem nx sl o v := by
  unfold Yl at h ⊢
  split at h
  · exact h
  · obtain ⟨e, h1, h2⟩ := h
    exact ⟨e, by rw [← hg]; exact h1, h2⟩
/-- What stands once some of the pure part has come up, and perhaps the new variable. -/
structure StN (κ : Ctx) (N : Nat) (pre : List Oper) (vs : List AV) (σ : S) (ext : List (Nat × Ob)) (h d : Nat) (lh : Bool) (L : Nat → Prop) (g : Gh) (a : Act) (w : World) : Prop where
  size : a.tmps.size = N
  defers : a.defers = κ.df.map mark
  inv : Inv κ g (bif lh then ext ++ σ.mem else σ.mem) w
  ptr : lh = true → AVR g (.ptr σ.nx 0) (a.tmps.getD d undef)
  new : ∀ i e, i ≠ h → L i → gslot pre i = some e → AVR g (vs.getD i .junk) (a.tmps.getD e undef)
  old : ∀ k v, look k σ.sl = some v → (∀ i, L i → gslot pre i ≠ some k) → AVR g v (a.tmps.getD k undef)
theorem any_new (hti : TiOK P ti) {ops : List Oper} {ms : List Nat} {K : S → Prop} {Q : Exit → Act → World → Prop} {κ : Ctx} {m h e dh : Nat} {oh : Oper} {ty : Ty} {σ σ' : S} {vs : List AV} (hoh : ops[h]? = some oh) (hop : oh.op = .alloc e) (hgd : oh.guard = none) (hdh : oh.dst = some dh) (ht : ti e = some ty) (hz : ty.zero.length = ty.size) (h0s : 0 < ty.size) (hhm : h < m)
    (hnr : ∀ o ∈ (ops.set h (unAlloc oh)).take m, dh ∉ reads (ops.set h (unAlloc oh)) o) (hms : ancs [] 0 ops = some ms) (hm : m ≤ ops.length) (hf : ∀ i', m ≤ i' → i' < ops.length → ∀ j, j < i' → (ms.getD i' 0).testBit j = true)
    (hw : writersOK (ops.set h (unAlloc oh)) ((ops.set h (unAlloc oh)).take m) ms 0 ((ops.set h (unAlloc oh)).take m) = true) (hok : σ.ok = true) (hok' : σ'.ok = true) (hmem : σ'.mem = σ.mem) (hnx : σ'.nx = σ.nx) (hch : chainP P (ops.set h (unAlloc oh)) σ.mem σ.nx N ((ops.set h (unAlloc oh)).take m) vs σ.sl σ'.sl)
    (hQ : ∀ g' σ' a' w', K σ' → St κ N g' σ' a' w' → Q .normal a' w') (htail : evOps P ti N ops (ops.drop m) ⟨(dh, .ptr σ.nx 0) :: σ'.sl, newObs σ.nx e ty ++ σ.mem, newNx σ.nx ty⟩ K) : ∀ (c : Nat) (U : List Nat) (listed : Array Bool) (g : Gh) (a : Act) (w : World), U.length = c → U.Nodup → (∀ k, k ∈ U ↔ k < m ∧ listed.getD k true = false) → listed.size = ops.length →
      (∀ k, m ≤ k → k < ops.length → listed.getD k true = false) → (∀ k o, ops[k]? = some o → listed.getD k false = true → ∀ e ∈ o.after, Region.binds .any e = true → listed.getD e.on false = true) →
      StN κ N ((ops.set h (unAlloc oh)).take m) vs σ (newObs σ.nx e ty) h dh (listed.getD h false) (fun i => listed.getD i false = true) g a w → wpAnyIn (wd κ.rd) 0 P .any ops.toArray Q (c + (ops.length - m)) listed a w := by
  obtain ⟨huniq, htied⟩ := writersOK_spec hw
  obtain ⟨hlen, hend, hat⟩ := chain_knows _ _ _ _ hch huniq
  obtain ⟨⟨r', hr', hrl⟩, hs⟩ := ancs_spec ops ops [] 0 ms hms rfl (fun j => by simp)
  obtain ⟨hext, hnxlt⟩ := newObs_ok σ.nx e ty
  have hmemOK : ∀ n ob, look n σ.mem = some ob → n < σ.nx ∧ ob.lt σ.nx = true := fun n ob hl => S.ok_mem hok hl
  have hpl : ((ops.set h (unAlloc oh)).take m).length = m := by simp [Nat.min_eq_left hm]
  have hgs : ∀ i, i < m → gslot ((ops.set h (unAlloc oh)).take m) i = gslot ops i := fun i hi => by rw [gslot_take hi, gslot_set hoh]
  have hhd : gslot ((ops.set h (unAlloc oh)).take m) h = some dh := by rw [hgs h hhm]; unfold gslot; rw [hoh]; exact hdh
  have hdN : dh < N := by
    obtain ⟨_, d, _, q1, q2, _⟩ := hat h (unAlloc oh) (by rw [List.getElem?_take, if_pos hhm, List.getElem?_set, if_pos rfl, if_pos (by omega)])
    have : d = dh := by
      have q1' : oh.dst = some d := q1
      rw [hdh] at q1'; exact (Option.some.inj q1').symm
    omega
  intro c
  induction c with
  | zero =>
    intro U listed g a w hU hnd hmemU hsz h2 hcl hst
    have hU0 : U = [] := List.length_eq_zero_iff.1 hU
    subst hU0
    have h1 : ∀ k, k < m → listed.getD k false = true := fun k hk => by
      cases hq : listed.getD k false with
      | true => rfl
      | false => exact absurd ((hmemU k).2 ⟨hk, by rw [getD_true_iff (by omega)]; exact hq⟩) (by simp)
    have hst' : St κ N g ⟨(dh, .ptr σ.nx 0) :: σ'.sl, newObs σ.nx e ty ++ σ.mem, newNx σ.nx ty⟩ a w := by
      have hinv := hst.inv
      rw [h1 h hhm] at hinv
      refine ⟨hst.size, hst.defers, fun k v hk => ?_, hinv, ?_⟩
      · rw [look_cons] at hk
        by_cases hkd : k = dh
        · subst hkd
          rw [if_pos rfl] at hk
          obtain rfl := Option.some.inj hk
          exact hst.ptr (h1 h hhm)
        · rw [if_neg hkd] at hk
          refine exists_dec (fun i => i < m ∧ gslot ((ops.set h (unAlloc oh)).take m) i = some k) _ (fun ⟨i, hi, hik⟩ => ?_) fun hno => ?_
          · have hih : i ≠ h := fun hh => by
              subst hh
              rw [hhd] at hik
              exact hkd (Option.some.inj hik).symm
            have := hend.new i k (by omega) hik
            rw [hk] at this
            obtain rfl := Option.some.inj this
            exact hst.new i k hih (h1 i hi) hik
          · rw [hend.old k fun i hi he => hno i ⟨by omega, he⟩] at hk
            exact hst.old k v hk fun i _ he => hno i ⟨by have := gslot_lt he; omega, he⟩
      · refine S.ok_iff.2 ⟨fun p hp => ?_, fun p hp => ?_⟩
        · rcases List.mem_cons.1 hp with rfl | hp
          · exact lt_ptr hnxlt
          · have := (S.ok_iff.1 hok').1 p hp
            rw [hnx] at this
            exact AV.lt_mono this (Nat.le_of_lt hnxlt)
        · rcases List.mem_append.1 hp with hp | hp
          · exact newObs_mem p hp
          · have := S.ok_memAll hok p hp
            exact ⟨by show p.1 < newNx σ.nx ty; omega, Ob.lt_mono this.2 (Nat.le_of_lt hnxlt)⟩
    have := any_tail hti hms hf hQ (ops.drop m) m listed _ g a w (Nat.le_refl _) (by simp; omega) (fun j => by simp) hsz h1 h2 htail hst'
    simpa using this
  | succ c ih =>
    intro U listed g a w hU hnd hmemU hsz h2 hcl hst
    rw [show c + 1 + (ops.length - m) = (c + (ops.length - m)) + 1 by omega]
    refine ⟨fun h0 => ?_, fun i hi => ?_⟩
    · have none : ∀ n k, k < n → k ∈ U → False := by
        intro n
        induction n with
        | zero => intro k h; omega
        | succ n ihn =>
          intro k hk hkU
          obtain ⟨hkm, hku⟩ := (hmemU k).1 hkU
          have hko : ops[k]? = some ops[k] := List.getElem?_eq_getElem (by omega)
          have : k ∈ Region.ready .any ops.toArray listed := by
            rw [mem_ready]
            refine ⟨hku, ops[k], by simpa using hko, fun e he hb => ?_⟩
            have hlt := (anc1_spec (hs k _ (Nat.zero_le _) hko)).1 e (by simpa using he) hb
            cases hq : listed.getD e.on false with
            | true => rfl
            | false => exact (ihn e.on (by omega) ((hmemU _).2 ⟨by omega, by rw [getD_true_iff (by omega)]; exact hq⟩)).elim
          rw [h0] at this
          cases this
      cases U with
      | nil => cases hU
      | cons u t => exact (none (u + 1) u (Nat.lt_succ_self _) List.mem_cons_self).elim
    · obtain ⟨k1, o, k2, k3⟩ := mem_ready.1 hi
      have ho : ops[i]? = some o := by simpa using k2
      have hil := (List.getElem?_eq_some_iff.1 ho).1
      have hun : listed.getD i false = false := by rw [← getD_true_iff (by omega)]; exact k1
      have hanc : ∀ j, (ms.getD i 0).testBit j = true → listed.getD j false = true := anc_closed hms (L := fun k => listed.getD k false = true) hcl (i + 1) i (Nat.lt_succ_self _) o ho k3
      have him : i < m := by
        rcases Nat.lt_or_ge i m with h' | h'
        · exact h'
        · exfalso
          cases U with
          | nil => cases hU
          | cons u t =>
            obtain ⟨q1, q2⟩ := (hmemU u).1 List.mem_cons_self
            have := hanc u (hf i h' hil u (by omega))
            rw [getD_true_iff (by omega), this] at q2
            cases q2
      have hlist : ∀ j, (listed.setIfInBounds i true).getD j false = true → j = i ∨ listed.getD j false = true := fun j hj => by
        by_cases hji : i = j
        · exact .inl hji.symm
        · rw [getD_set_ne false hji] at hj; exact .inr hj
      have go : ∀ {g' : Gh} {u : Value} {w' : World}, StN κ N ((ops.set h (unAlloc oh)).take m) vs σ (newObs σ.nx e ty) h dh ((listed.setIfInBounds i true).getD h false) (fun j => (listed.setIfInBounds i true).getD j false = true) g' (a.put o.dst u) w' → wpAnyIn (wd κ.rd) 0 P .any ops.toArray Q (c + (ops.length - m)) (listed.setIfInBounds i true) (a.put o.dst u) w' := fun {g' u w'} hst' => by
        refine ih (U.erase i) _ g' _ w' (by rw [List.length_erase_of_mem ((hmemU i).2 ⟨him, k1⟩)]; omega) (hnd.erase i) (fun k => ?_) (by simp [hsz]) (fun k hk1 hk2 => ?_) (fun k o' ho' hk1 e he' hb => ?_) hst'
        · rw [hnd.mem_erase_iff, hmemU]
          by_cases hki : k = i
          · subst hki
            rw [getD_set_self _ (by omega)]
            simp
          · rw [getD_set_ne true (Ne.symm hki)]
            simp [hki]
        · rw [getD_set_ne true (by omega)]; exact h2 k hk1 hk2
        · rcases hlist k hk1 with rfl | hk1
          · rw [ho] at ho'
            obtain rfl := Option.some.inj ho'
            exact getD_set_true (k3 e he' hb)
          · exact getD_set_true (hcl k o' ho' hk1 e he' hb)
      by_cases hih : i = h
      · subst hih
        have hoo : o = oh := by rw [hoh] at ho; exact (Option.some.inj ho).symm
        subst hoo
        have hinv := hst.inv
        rw [hun, cond_false] at hinv
        have ho' : ops.toArray[i]? = some o := by simpa using hoh
        simp only [wpOpIn, ho']
        rw [if_pos (wanted_none hgd)]
        refine alloc_step (nx := σ.nx) hti hop ht hz h0s hinv (S.ok_iff.2 ⟨(fun p hp => by cases hp), (fun p hp => S.ok_memAll hok p hp)⟩) fun g' u w' he hi' hu => go (g' := g') ?_
        have hput : ∀ x, (a.put o.dst u).tmps.getD x undef = if x = dh then u else a.tmps.getD x undef := fun x => by
          rw [hdh, put_tmps, getD_set _ _ _ _ (by rw [hst.size]; exact hdN)]
        refine ⟨by rw [hdh]; simp [put_tmps, hst.size], by rw [put_defers]; exact hst.defers, by rw [getD_set_self _ (by omega)]; exact hi', fun _ => by rw [hput, if_pos rfl]; exact hu, fun j e' hji hj hje => ?_, fun k v hk' hno => ?_⟩
        · rw [hput]
          have hed : e' ≠ dh := fun h => by
            subst h
            exact hji (huniq j i e' hje hhd)
          rw [if_neg hed]
          rcases hlist j hj with rfl | hj'
          · exact (hji rfl).elim
          · have hjl := gslot_lt hje
            obtain ⟨_, _, _, _, _, q, _⟩ := hat j _ (List.getElem?_eq_getElem hjl)
            exact (hst.new j e' hji hj' hje).ext he q
        · rw [hput, if_neg (by
            rintro rfl
            exact hno i (getD_set_self _ (by omega)) hhd)]
          exact (hst.old k v hk' fun j hj => hno j (getD_set_true hj)).ext he (S.ok_sl hok hk')
      · have hop' : ((ops.set h (unAlloc oh)).take m)[i]? = some o := by rw [List.getElem?_take, if_pos him, List.getElem?_set, if_neg (Ne.symm hih)]; exact ho
        obtain ⟨slj, d, hk, hd, hdN', hvl, hy⟩ := hat i o hop'
        have hslot : gslot ((ops.set h (unAlloc oh)).take m) i = some d := by unfold gslot; rw [hop']; exact hd
        have hdd : d ≠ dh := fun hq => by
          subst hq
          exact hih (huniq i h d hslot hhd)
        have hreads : reads (ops.set h (unAlloc oh)) o = reads ops o := by
          unfold reads
          congr 1
          cases o.guard with
          | none => rfl
          | some p => obtain ⟨j, c⟩ := p; show (gslot _ j).toList = (gslot _ j).toList; rw [gslot_set hoh]
        have hrd : ∀ t, t ∈ reads ops o → ∀ v, look t slj = some v → AVR g v (a.tmps.getD t undef) := fun t ht v hv => by
          have ht' : t ∈ reads (ops.set h (unAlloc oh)) o := by rw [hreads]; exact ht
          refine exists_dec (fun j => j < i ∧ gslot ((ops.set h (unAlloc oh)).take m) j = some t) _ (fun ⟨j, hj, hjt⟩ => ?_) fun hno => ?_
          · have hjh : j ≠ h := fun hq => by
              subst hq
              rw [hhd] at hjt
              obtain rfl := Option.some.inj hjt
              exact hnr o (List.mem_of_getElem? hop') ht'
            have := hk.new j t hj hjt
            rw [hv] at this
            obtain rfl := Option.some.inj this
            have htd := tiedTo_spec (htied j t hjt) hop' ht'
            simp only [Nat.zero_add] at htd
            rcases htd with ⟨_, hb⟩ | ⟨hlt, _⟩
            · exact hst.new j t hjh (hanc j hb) hjt
            · omega
          · rw [hk.old t fun j hj hjt => hno j ⟨hj, hjt⟩] at hv
            refine hst.old t v hv fun j hj hjt => ?_
            have htd := tiedTo_spec (htied j t hjt) hop' ht'
            simp only [Nat.zero_add] at htd
            rcases htd with ⟨hlt, _⟩ | ⟨hlt, hb⟩
            · exact hno j ⟨hlt, hjt⟩
            · have hjm := gslot_lt hjt
              rw [hpl] at hjm
              have hjo : ops[j]? = some ops[j] := List.getElem?_eq_getElem (by omega)
              have := anc_closed hms (L := fun k => listed.getD k false = true) hcl (j + 1) j (Nat.lt_succ_self _) _ hjo (hcl j _ hjo hj) i hb
              rw [hun] at this
              cases this
        have hy' : Yl P ops σ.mem σ.nx slj o (vs.getD i .junk) := hy.all (gslot_set hoh)
        have hlh : (listed.setIfInBounds i true).getD h false = listed.getD h false := getD_set_ne false hih
        have fin : ∀ {g' : Gh} {u : Value} {w' : World} {nx' : Nat}, σ.nx ≤ nx' → (listed.getD h false = true → σ.nx < nx') → Ext nx' g g' → Inv κ g' (bif listed.getD h false then newObs σ.nx e ty ++ σ.mem else σ.mem) w' → AVR g' (vs.getD i .junk) u →
            StN κ N ((ops.set h (unAlloc oh)).take m) vs σ (newObs σ.nx e ty) h dh ((listed.setIfInBounds i true).getD h false) (fun j => (listed.setIfInBounds i true).getD j false = true) g' (a.put o.dst u) w' := fun {g' u w' nx'} hnn hnl he hi' hu => by
          have he0 : Ext σ.nx g g' := he.mono hnn
          have hput : ∀ x, (a.put o.dst u).tmps.getD x undef = if x = d then u else a.tmps.getD x undef := fun x => by
            rw [hd, put_tmps, getD_set _ _ _ _ (by rw [hst.size]; exact hdN')]
          refine ⟨by rw [hd]; simp [put_tmps, hst.size], by rw [put_defers]; exact hst.defers, by rw [hlh]; exact hi', fun hl => ?_, fun j e' hjh hj hje => ?_, fun k v hk' hno => ?_⟩
          · rw [hlh] at hl
            rw [hput, if_neg (Ne.symm hdd)]
            exact (hst.ptr hl).ext he (lt_ptr (hnl hl))
          · rw [hput]
            by_cases hed : e' = d
            · subst hed
              have := huniq j i e' hje hslot
              subst this
              rw [if_pos rfl]; exact hu
            · rw [if_neg hed]
              rcases hlist j hj with rfl | hj'
              · rw [hslot] at hje
                exact (hed (Option.some.inj hje).symm).elim
              · have hjl := gslot_lt hje
                obtain ⟨_, _, _, _, _, q, _⟩ := hat j _ (List.getElem?_eq_getElem hjl)
                exact (hst.new j e' hjh hj' hje).ext he0 q
          · rw [hput, if_neg (by
              rintro rfl
              exact hno i (getD_set_self _ (by omega)) hslot)]
            exact (hst.old k v hk' fun j hj => hno j (getD_set_true hj)).ext he0 (S.ok_sl hok hk')
        have hinv := hst.inv
        cases hlb : listed.getD h false with
        | false =>
          rw [hlb, cond_false] at hinv
          rw [hlb] at fin
          exact wpOp_of_Yl ho hy' hinv hrd fun g' u w' he hi' hu => go (fin (Nat.le_refl _) (fun h => by cases h) he hi' hu)
        | true =>
          rw [hlb, cond_true] at hinv
          rw [hlb] at fin
          exact wpOp_of_Yl ho (hy'.frame (Nat.le_of_lt hnxlt) hmemOK hext) hinv hrd fun g' u w' he hi' hu => go (fin (Nat.le_of_lt hnxlt) (fun _ => hnxlt) he hi' hu)
def noRd (all : List Oper) (d : Nat) (l : List Oper) : Bool := l.all fun o => !memN d (reads all o)
def newB (ops : List Oper) (h : Nat) (oh : Oper) (m : Nat) : Bool :=
  match ancs [] 0 ops, oh.dst, oh.guard with
  | some ms, some d, none => Nat.blt h m && Nat.ble m ops.length && writersOK (ops.set h (unAlloc oh)) ((ops.set h (unAlloc oh)).take m) ms 0 ((ops.set h (unAlloc oh)).take m) && forced ms ops.length m (ops.length - m) && noRd (ops.set h (unAlloc oh)) d ((ops.set h (unAlloc oh)).take m)
  | _, _, _ => false
/-- Where a region's new variable is laid. -/
def newK (P : Program) (ti : Nat → Option Ty) (N : Nat) (ops : List Oper) (h m : Nat) (σ : S) (K : S → Prop) : Prop :=
  match ops[h]? with
  | some oh => match oh.op, oh.dst with
    | .alloc e, some d => match ti e with
      | some ty => bif newB ops h oh m && (Nat.beq ty.zero.length ty.size && Nat.blt 0 ty.size) then evPre P ti N (ops.set h (unAlloc oh)) ((ops.set h (unAlloc oh)).take m) σ fun σ' => evOps P ti N ops (ops.drop m) ⟨(d, .ptr σ.nx 0) :: σ'.sl, newObs σ.nx e ty ++ σ'.mem, newNx σ'.nx ty⟩ K else False
      | none => False
    | _, _ => False
  | none => False
/-- **A drawn region in which one variable is laid, at any time.** -/
theorem draw_new (hti : TiOK P ti) (hm : P.follows .mixedOrders = true) {id : Nat} {ops : List Oper} {σ : S} {K : S → Prop} (h m : Nat) (hK : newK P ti N ops h m σ K) : DrawS P ti N id ops σ K := by
  unfold newK at hK
  split at hK
  case h_2 => exact hK.elim
  rename_i oh hoh
  split at hK
  case h_2 => exact hK.elim
  rename_i e d hop hd
  split at hK
  case h_2 => exact hK.elim
  rename_i ty hty
  obtain ⟨hb, hK⟩ := bif_ok hK
  simp only [Bool.and_eq_true] at hb
  obtain ⟨hb, hb1, hb2⟩ := hb
  unfold newB at hb
  split at hb
  case h_2 => cases hb
  rename_i ms d' hms hd' hg
  have hdd : d' = d := by rw [hd] at hd'; exact (Option.some.inj hd').symm
  subst hdd
  simp only [Bool.and_eq_true] at hb
  obtain ⟨⟨⟨⟨c1, c2⟩, c3⟩, c4⟩, c5⟩ := hb
  have hml := Nat.le_of_ble_eq_true c2
  have hhm : h < m := by simpa using c1
  refine ⟨fun κ g a w _ hst => wpIn_region_any hm ?_⟩
  obtain ⟨vs, σ', htail, hok', hmem, hnx, hch⟩ := evPre_chain hti _ σ hst.ok hK
  rw [hmem, hnx] at htail
  have key : ∀ Q : Exit → Act → World → Prop, (∀ g' σ' a' w', K σ' → St κ N g' σ' a' w' → Q .normal a' w') → wpAnyIn (wd κ.rd) 0 P .any ops.toArray Q ops.length (Array.replicate ops.length false) a { w with drawn := w.drawn + 1 } := fun Q hQ => by
    have := any_new (Q := Q) hti hoh hop hg hd hty (Nat.eq_of_beq_eq_true hb1) (by simpa using hb2) hhm (fun o ho => by
        unfold noRd at c5
        rw [List.all_eq_true] at c5
        have := c5 o ho
        rw [Bool.not_eq_true'] at this
        intro hmem'
        rw [memN_iff.2 hmem'] at this
        cases this) hms hml (fun i' h1 h2 => forced_spec c4 i' h1 (by omega)) c3 hst.ok hok' hmem hnx hch hQ htail m (List.range m) (Array.replicate ops.length false) g a { w with drawn := w.drawn + 1 }
      List.length_range List.nodup_range (fun k => by
        rw [List.mem_range]
        refine ⟨fun hk => ⟨hk, by simp [Array.getD, show k < ops.length by omega]⟩, fun hk => hk.1⟩) (by simp) (fun k _ hk => by simp [Array.getD, hk]) (fun k o _ hk => by simp [Array.getD] at hk)
      (by
        have hf : (Array.replicate ops.length false).getD h false = false := by simp [Array.getD]
        rw [hf]
        exact ⟨hst.size, hst.defers, hst.inv.drew _, (fun hl => by cases hl), fun i d _ hi => by simp [Array.getD] at hi, fun k v hk _ => hst.sl k v hk⟩)
    rw [show m + (ops.length - m) = ops.length by omega] at this
    exact this
  rw [List.size_toArray]
  exact key _ fun g' σ' a' w' hK hst' => .of hK hst'
/-- The place of the first new variable of a region. -/
def newAt : Nat → List Oper → Nat
  | i, [] => i
  | i, o :: r => match o.op with
    | .alloc _ => i
    | _ => newAt (i + 1) r
theorem draw_newA (hti : TiOK P ti) (hm : P.follows .mixedOrders = true) {id : Nat} {ops : List Oper} {σ : S} {K : S → Prop} (hK : newK P ti N ops (newAt 0 ops) (cut ops) σ K) : DrawS P ti N id ops σ K := draw_new hti hm _ _ hK
end
end Go.Sy

/- A literal of bytes, converted: the run-time's mark. Conditions: none. -/
namespace Go.Sy
set_option linter.unusedVariables false
set_option linter.unusedSimpArgs false
section
variable {P : Program} {ti : Nat → Option Ty} {N : Nat}
/-- A block's mark turns. -/
theorem Inv.mark {κ : Ctx} {g : Gh} {mem : List (Nat × Ob)} {w w' : World} {b : Nat} {arr : Array Value} {T : TypeId} {fz fz' : Nat × Nat} (hi : Inv κ g mem w) (hb : w.heap[b]? = some (.cells arr T fz)) (hw : ∀ k, w'.heap[k]? = if k = b then some (.cells arr T fz') else w.heap[k]?)
    (hsz : w'.heap.size = w.heap.size) (h1 : w'.os = w.os) (h2 : w'.tape = w.tape) (h3 : w'.output = w.output) (hno : ∀ n, On g mem n → g.blk n ≠ b) (hown : κ.w0.heap.size ≤ b ∨ b ∈ κ.mod) : Inv κ g mem w' := by
  have hne : ∀ k, k ≠ b → w'.heap[k]? = w.heap[k]? := fun k hk => by rw [hw, if_neg hk]
  have hcell : ∀ k o, w'.cell? ⟨k, o, none⟩ = w.cell? ⟨k, o, none⟩ := fun k o => by
    by_cases hk : k = b
    · subst hk
      simp only [World.cell?, hw, if_pos, hb]
    · simp only [World.cell?, hne k hk]
  refine ⟨fun b' o v h => by rw [hcell]; exact hi.frz b' o v h, fun n ob hn => ?_, hi.inj, by rw [hsz]; exact hi.size, fun b' hb' hm => ?_, hi.own, hi.f0, hi.fnew, h1.trans hi.os, h2.trans hi.tape, h3.trans hi.output, fun D hD => ?_⟩
  · have hob := hi.obs n ob hn
    have hon : (match ob with | .cells .. => True | .tail .. => g.has n = true | .vec .. => g.has n = true | .tag .. => False | .frame .. => False | .loop .. => True) → w'.heap[g.blk n]? = w.heap[g.blk n]? := fun h => hne _ (hno n (by unfold On; rw [hn]; cases ob <;> exact h))
    cases ob with
    | cells size c =>
      obtain ⟨arr', T', e1, e2⟩ := hob
      exact ⟨arr', T', by rw [hon trivial]; exact e1, e2⟩
    | tail t b =>
      refine ⟨fun hh => ?_, hob.2⟩
      obtain ⟨arr', u, e1, e2⟩ := hob.1 hh
      exact ⟨arr', u, by rw [hon hh]; exact e1, e2⟩
    | vec t sz es f => exact VecOK.mono hob (fun _ _ _ h => h) rfl rfl rfl rfl (fun hh => hon hh) (fun _ _ h => h)
    | tag m t =>
      obtain ⟨arr', fz2, e⟩ := hob
      by_cases hk : g.blk m = b
      · rw [hk, hb] at e
        cases e
        exact ⟨arr, fz', by rw [hw, if_pos hk]⟩
      · exact ⟨arr', fz2, by rw [hne _ hk]; exact e⟩
    | frame sz l => exact hob
    | loop k ps asg body st pd =>
      obtain ⟨e0, fn, D, e⟩ := hob
      exact ⟨e0, fn, D, by rw [hon trivial]; exact e⟩
  · rw [hne b' (fun h => by
      subst h
      rcases hown with h | h
      · omega
      · exact hm h)]
    exact hi.pres b' hb' hm
  · have hd := hi.dfr D hD
    rw [hne D (fun h => by subst h; rw [hb] at hd; cases hd)]
    exact hd
theorem run_convert_mark {w : World} {s e b off n c : Nat} {arr : Array Value} {T : TypeId} (hs : P.underlying s = some (.slice e)) (he : P.underlying e = some (.int .u8)) (hb : w.heap[b]? = some (.cells arr T (0, 0))) :
    (convert s s (.slice (some ⟨b, off, none⟩) n c)).run P w = .ok (.slice (some ⟨b, off, none⟩) n c) (w.freeze ⟨b, arr.size, none⟩ 1) := by
  have hsh : w.shape? b = some (T, arr.size) := by
    unfold World.shape?
    rw [hb]
  simp [convert, run_underlying hs, run_underlying he, markStringish, hsh]
theorem freeze_heap {w : World} {b n : Nat} {arr : Array Value} {T : TypeId} (hb : w.heap[b]? = some (.cells arr T (0, 0))) (k : Nat) : (w.freeze ⟨b, n, none⟩ 1).heap[k]? = if k = b then some (.cells arr T (n, n + 1)) else w.heap[k]? := by
  unfold World.freeze
  rw [if_neg (by decide)]
  show (w.heap.modify b _)[k]? = _
  rw [Array.getElem?_modify]
  by_cases hk : b = k
  · subst hk
    rw [if_pos rfl, if_pos rfl, hb]; rfl
  · rw [if_neg hk, if_neg (Ne.symm hk)]
theorem OpX.conv {o : Oper} {σ : S} {K : S → Prop} {n tt len e s d t : Nat} {es : List (List D)} {fl : Bool} {sty ety : Ty} (hti : TiOK P ti) (hop : o.op = .convert s s (.tmp t)) (hd : o.dst = some d) (hx : look t σ.sl = some (.vx 1 n 0 len)) (hm : look n σ.mem = some (.vec tt 1 es fl)) (hl : len = es.length) (h0 : 0 < len)
    (hs : ti s = some sty) (hsk : sty.kd = .slice e) (he : ti e = some ety) (hek : ety.kd = .int .u8) (hK : K ⟨(d, .d (.fs 1 es)) :: (t, .d (.fs 1 es)) :: σ.sl, nubK σ.mem [n], σ.nx⟩) : OpX P N o σ K := by
  subst hl
  refine ⟨fun hdN κ g a w hst next Q hn => ?_⟩
  have hdN' := hdN d hd
  let τ : S := ⟨(t, .d (.fs 1 es)) :: σ.sl, nubK σ.mem [n], σ.nx⟩
  have hnub : ∀ k ob, look k (nubK σ.mem [n]) = some ob → k ≠ n ∧ look k σ.mem = some ob := fun k ob hk => by
    obtain ⟨h1, h2⟩ := nub_mem σ.mem [n] (k, ob) (look_mem hk)
    exact ⟨fun h => h1 (by simp [h]), h2⟩
  have hok : τ.ok = true := by
    refine S.ok_iff.2 ⟨fun p hp => ?_, fun p hp => ?_⟩
    · rcases List.mem_cons.1 hp with rfl | hp
      · rfl
      · exact (S.ok_iff.1 hst.ok).1 p hp
    · obtain ⟨h1, h2⟩ := nub_mem σ.mem [n] p hp
      exact S.ok_memAll hst.ok p (look_mem h2)
  obtain ⟨F', hst'⟩ := frz_st (τ := τ) hm (fun k v hk => by
    rw [show τ.sl = (t, .d (.fs 1 es)) :: σ.sl from rfl, look_cons] at hk
    by_cases hkt : k = t
    · subst hkt
      rw [if_pos rfl] at hk
      obtain rfl := Option.some.inj hk
      exact ⟨_, hx, .vx 0 es.length es (by omega) (by simp)⟩
    · rw [if_neg hkt] at hk
      exact ⟨v, hk, .same v⟩) (fun k ob hk => ⟨(hnub k ob hk).1, ob, (hnub k ob hk).2, .same ob⟩) hok hst
  have hon : On g σ.mem n → g.has n = true := fun h => by unfold On at h; rw [hm] at h; exact h
  have hav := hst.sl _ _ hx
  obtain ⟨v1, v2, v3⟩ : VecOK g w n tt 1 es fl := hst.inv.obs n _ hm
  generalize hu : a.tmps.getD t undef = u at hav
  cases hav with | vx _ _ _ _ ad c hc had => ?_
  obtain ⟨hh, rfl, _⟩ := had.pos (by omega)
  obtain ⟨arr, e1, _⟩ := v3 hh
  have hOn : On g σ.mem n := by unfold On; rw [hm]; exact hh
  obtain ⟨u1, i1, hs'⟩ := tyOf_ok (hti _ _ hs)
  obtain ⟨u2, i2, he'⟩ := tyOf_ok (hti _ _ he)
  obtain rfl := slice_of hs' hsk
  obtain rfl := int_of he' hek
  have hrun : (execOp a.eval o).run P w = .ok (.value (.slice (some ⟨g.blk n, g.hi n + 0 * 1, none⟩) es.length c)) (w.freeze ⟨g.blk n, arr.size, none⟩ 1) := by
    have hev : a.eval (.tmp t) = .slice (some ⟨g.blk n, g.hi n + 0 * 1, none⟩) es.length c := hu
    simp only [execOp, hop, hev, Sem.run_bind, run_convert_mark hs'.und he'.und e1, Result.andThen_ok, Sem.run_pure]
  have hinv := hst'.inv.mark (w' := w.freeze ⟨g.blk n, arr.size, none⟩ 1) e1 (freeze_heap e1) (by
      unfold World.freeze
      rw [if_neg (by decide)]
      simp) (by unfold World.freeze; rw [if_neg (by decide)]) (by unfold World.freeze; rw [if_neg (by decide)]) (by unfold World.freeze; rw [if_neg (by decide)]) (fun k hk => by
      have hk' : k ≠ n ∧ On g σ.mem k := by
        unfold On at hk ⊢
        cases hl : look k (nubK σ.mem [n]) with
        | none =>
          have : look k τ.mem = none := hl
          rw [this] at hk; exact hk.elim
        | some ob =>
          have : look k τ.mem = some ob := hl
          rw [this] at hk
          obtain ⟨q1, q2⟩ := hnub k ob hl
          rw [q2]
          exact ⟨q1, hk⟩
      exact hst.inv.inj k n hk'.1 hk'.2 hOn) (hst.inv.own n hOn)
  have hval := hst'.sl t (.d (.fs 1 es)) (by rw [show τ.sl = (t, .d (.fs 1 es)) :: σ.sl from rfl, look_cons, if_pos rfl])
  rw [hu] at hval
  have hst2 : St κ N { g with F := F' } τ a (w.freeze ⟨g.blk n, arr.size, none⟩ 1) := ⟨hst'.size, hst'.defers, hst'.sl, hinv, hst'.ok⟩
  refine wp_value hrun (hn { g with F := F' } _ _ _ hK ?_)
  rw [hd]
  exact hst2.put hdN' (.refl _ _) hinv hval (S.ok_cons hst2.ok (Nat.le_refl _) rfl (S.ok_memAll hst2.ok))
/-- The end of a body, said weaker. -/
def finW (ti : Nat → Option Ty) (N : Nat) (rs : List ResultVar) (R : AV → Prop) : Exit → S → Prop
  | .ret, σ | .normal, σ => ∃ τ, Wk N σ τ ∧ fin ti rs R .ret τ
  | _, _ => False
/-- A function's contract, out of its body; what it returns is said weaker. -/
theorem FnC.introW {f : Nat} {fn : Func} {c : Code} {args : List AV} {r : AV} (hti : TiOK P ti) (hf : P.funcs[f]? = some fn) (hb : fn.body = some c) (hN : fn.ntmps = N) (hcall : ∀ (vs : Array Value) (w : World), (callFunc f vs).run P w = .ok (.enter f vs) w)
    (hargs : args.all AV.isP = true) (hlen : args.length ≤ N) (hr : r.isP = true) (h : vc P ti N c (finW ti N fn.results.toList (· = r)) ⟨idx 0 args, [], 0⟩) : FnC P f args r := by
  refine ⟨hr, fun g w vs hfz hsz hav => .inl ⟨hcall vs w, ?_⟩⟩
  have hst : St ⟨w, g.F, [], none, [], [], fun _ => #[], fun _ => 0⟩ N { g with has := fun _ => false } ⟨idx 0 args, [], 0⟩ { tmps := vs ++ Array.replicate (fn.ntmps - vs.size) undef, defers := [] } w := by
    refine ⟨by simp; omega, rfl, fun k v hk => ?_, ⟨hfz, (fun n ob hn => by cases hn), (fun n m _ (h1 : On _ [] n) _ => h1.elim), Nat.le_refl _, fun _ _ _ => rfl, (fun n (h : On _ [] n) => h.elim), fun _ _ _ h => h, fun _ _ _ h => .inl h, rfl, rfl, rfl, fun D hD => by cases hD⟩, ?_⟩
    · obtain ⟨h1, _, h3⟩ := look_idx args 0 k v hk
      simp only [Nat.sub_zero] at h1 h3
      subst h3
      have := hav k h1
      have e : (vs ++ Array.replicate (fn.ntmps - vs.size) undef).getD k undef = vs.getD k undef := by
        have hk1 : k < vs.size := by omega
        rw [Array.getD, dif_pos (by simp; omega), Array.getD, dif_pos hk1]
        exact Array.getElem_append_left hk1
      simp only [e]
      exact isP_mono (g := g) (g' := { g with has := fun _ => false }) (fun _ _ _ h => h) (all_getElem hargs k h1) this
    · rw [S.ok_iff]
      exact ⟨fun p hp => isP_lt (List.all_eq_true.1 hargs _ (idx_mem _ _ _ hp)) _, (fun p hp => by cases hp)⟩
  refine calls_of_vc hti hf hb hN rfl rfl h hst (fun e σ hq => ?_) fun e g' σ' a' w' hq hst' => ?_
  · cases e with
    | ret => exact .inl rfl
    | normal => exact .inr rfl
    | _ => exact hq.elim
  · have hq' : ∃ τ, Wk N σ' τ ∧ fin ti fn.results.toList (· = r) .ret τ := by
      cases e with
      | ret => exact hq
      | normal => exact hq
      | _ => exact hq.elim
    obtain ⟨τ, hwk, hq'⟩ := hq'
    obtain ⟨g2, hst2⟩ := hwk.run _ _ _ _ hst'
    obtain ⟨v, u, F', ⟨rfl, k1, k2, f1, f2, f3⟩, k3⟩ := fin_ok hti hst2 (.inl rfl) hq'
    have hi := hst2.inv
    have hnew : ∀ b o v, F' b o = some v → g.F b o = some v ∨ w.heap.size ≤ b := fun b o v h => by
      rcases f2 b o v h with h | h | h
      · rcases hi.fnew b o v h with h | h | h
        · exact .inl h
        · exact .inr h
        · cases h
      · exact .inr h
      · cases h
    exact ⟨u, k3, u, { g2 with F := F' }, rfl, k2, fun b o v h => f1 b o v (hi.f0 b o v h), hnew, f3, hi.size, fun b hb => hi.pres b hb (by simp), hi.os, hi.tape, hi.output⟩
theorem AtD.now {a : List D} {K : List D → Prop} (h : K a) : AtD a K := ⟨h⟩
theorem AtD.eq {a l : List D} {K : List D → Prop} (e : a = l) (h : K l) : AtD a K := ⟨by rw [e]; exact h⟩
theorem atD_id {a : List D} {K : List D → Prop} (h : AtD a K) : AtD a K := h
theorem atA_id {a : AV} {K : AV → Prop} (h : AtA a K) : AtA a K := h
theorem opX_id {o : Oper} {σ : S} {K : S → Prop} (h : OpX P N o σ K) : OpX P N o σ K := h
end
end Go.Sy

/- A nil slice in a variable, as an open one. Conditions: none. -/
namespace Go.Sy
set_option linter.unusedVariables false
set_option linter.unusedSimpArgs false
section
variable {P : Program} {ti : Nat → Option Ty} {N : Nat}
theorem Inv.redo {κ : Ctx} {g : Gh} {mem : List (Nat × Ob)} {w : World} {n : Nat} {o o' : Ob} (hi : Inv κ g mem w) (hn : look n mem = some o) (ho : ObOK κ g w n o') (hon : On g ((n, o') :: mem) n → On g mem n) : Inv κ g ((n, o') :: mem) w := by
  have on : ∀ k, On g ((n, o') :: mem) k → On g mem k := fun k h => by
    by_cases hk : k = n
    · subst hk; exact hon h
    · unfold On at h ⊢
      rw [look_cons, if_neg hk] at h; exact h
  refine ⟨hi.frz, fun k ob hk => ?_, fun k m hkm h h' => hi.inj k m hkm (on k h) (on m h'), hi.size, hi.pres, fun k h => hi.own k (on k h), hi.f0, hi.fnew, hi.os, hi.tape, hi.output, hi.dfr⟩
  rw [look_cons] at hk
  by_cases hkn : k = n
  · rw [if_pos hkn] at hk
    obtain rfl := Option.some.inj hk
    rw [hkn]; exact ho
  · rw [if_neg hkn] at hk; exact hi.obs k ob hk
/-- A nil slice that stands in a variable is an open slice without a block. -/
theorem Wk.nlTs {σ : S} (n j size sz t : Nat) {c : List AV} (hn : look n σ.mem = some (.cells size c)) (hc : c[j]? = some (.nl sz)) :
    Wk N σ ⟨σ.sl, (n, .cells size (c.set j (.ts sz [] σ.nx))) :: (σ.nx, .tail t true) :: σ.mem, σ.nx + 1⟩ := by
  refine ⟨fun κ g a w hst => ?_⟩
  have hmem : ∀ n ob, look n σ.mem = some ob → n < σ.nx ∧ ob.lt σ.nx = true := fun n ob h => S.ok_mem hst.ok h
  let g' : Gh := { g with has := fun n => if n = σ.nx then false else g.has n, hi := fun n => if n = σ.nx then 0 else g.hi n }
  have he : Ext σ.nx g g' := ⟨fun _ _ _ h => h, fun _ _ => rfl, fun n hn => if_neg (by omega), fun _ _ => rfl, fun n hn => if_neg (by omega)⟩
  have hi' : Inv κ g' σ.mem w := hst.inv.grow hmem he (Nat.le_refl _) (fun _ _ => rfl) (fun b o v h => .inl h) (fun b o v h => hst.inv.frz b o v h) rfl rfl rfl
  have hlook : ∀ k, look k ((σ.nx, Ob.tail t true) :: σ.mem) = if k = σ.nx then some (.tail t true) else look k σ.mem := fun k => look_cons _ _ _ _
  have hno : ¬ On g' ((σ.nx, .tail t true) :: σ.mem) σ.nx := by
    unfold On; rw [hlook, if_pos rfl]
    show ¬ (if σ.nx = σ.nx then false else g.has σ.nx) = true
    rw [if_pos rfl]; simp
  have on : ∀ k, On g' ((σ.nx, .tail t true) :: σ.mem) k → On g' σ.mem k := fun k h => by
    by_cases hk : k = σ.nx
    · subst hk; exact (hno h).elim
    · unfold On at h ⊢; rw [hlook, if_neg hk] at h; exact h
  have h1 : Inv κ g' ((σ.nx, .tail t true) :: σ.mem) w := by
    refine ⟨hi'.frz, fun k ob hk => ?_, fun k m hkm h h' => hi'.inj k m hkm (on k h) (on m h'), hi'.size, hi'.pres, fun k h => hi'.own k (on k h), hi'.f0, hi'.fnew, hi'.os, hi'.tape, hi'.output, hi'.dfr⟩
    rw [hlook] at hk
    by_cases hkk : k = σ.nx
    · subst hkk
      rw [if_pos rfl] at hk
      obtain rfl := Option.some.inj hk
      refine ⟨fun hh => ?_, fun _ _ => if_pos rfl⟩
      have : (if σ.nx = σ.nx then false else g.has σ.nx) = true := hh
      rw [if_pos rfl] at this; cases this
    · rw [if_neg hkk] at hk; exact hi'.obs k ob hk
  obtain ⟨hnlt, holt⟩ := hmem n _ hn
  have hn1 : look n ((σ.nx, Ob.tail t true) :: σ.mem) = some (.cells size c) := by rw [hlook, if_neg (by omega)]; exact hn
  obtain ⟨arr, T, e1, e2, e3, e4, e5, e6⟩ := h1.obs n _ hn1
  have hjl : j < c.length := (List.getElem?_eq_some_iff.1 hc).1
  have h2 := h1.redo (o' := .cells size (c.set j (.ts sz [] σ.nx))) hn1 ⟨arr, T, e1, e2, by rw [List.length_set]; exact e3, fun k hk => by
      rw [List.getElem_set]
      split
      · rfl
      · exact e4 k (by simpa using hk), fun k hk => by
      rw [List.getElem_set]
      split
      · rename_i hjk
        subst hjk
        have h5 := e5 j hjl
        rw [show c[j] = .nl sz from (List.getElem?_eq_some_iff.1 hc).2] at h5
        generalize arr.getD j undef = u at h5 ⊢
        cases h5
        exact .ts0 _ _ _ _ _ rfl (.fs0 _ _ _) (if_pos rfl) (fun _ => ⟨rfl, rfl⟩)
      · exact e5 k (by simpa using hk), e6⟩ (fun _ => by unfold On; rw [hn1]; trivial)
  refine ⟨g', hst.size, hst.defers, fun k v hk => (hst.sl k v hk).ext he (S.ok_sl hst.ok hk), h2, S.ok_iff.2 ⟨fun p hp => AV.lt_mono ((S.ok_iff.1 hst.ok).1 p hp) (Nat.le_succ _), fun p hp => ?_⟩⟩
  rcases List.mem_cons.1 hp with rfl | hp
  · refine ⟨Nat.lt_succ_of_lt hnlt, ?_⟩
    simp only [Ob.lt, List.all_eq_true] at holt ⊢
    intro x hx
    rcases List.mem_or_eq_of_mem_set hx with hx | rfl
    · exact AV.lt1_mono (holt x hx) (Nat.le_succ _)
    · simp [AV.lt1, AV.lt0]
  · rcases List.mem_cons.1 hp with rfl | hp
    · exact ⟨Nat.lt_succ_self _, rfl⟩
    · have := S.ok_memAll hst.ok p hp
      exact ⟨Nat.lt_succ_of_lt this.1, Ob.lt_mono this.2 (Nat.le_succ _)⟩
/-- A nil slice that stands in a variable is a vector without elements. -/
theorem Wk.nlVx {σ : S} (n j size sz t : Nat) {c : List AV} (hn : look n σ.mem = some (.cells size c)) (hc : c[j]? = some (.nl sz)) :
    Wk N σ ⟨σ.sl, (n, .cells size (c.set j (.vx sz σ.nx 0 0))) :: (σ.nx, .vec t sz [] false) :: σ.mem, σ.nx + 1⟩ := by
  refine ⟨fun κ g a w hst => ?_⟩
  have hmem : ∀ n ob, look n σ.mem = some ob → n < σ.nx ∧ ob.lt σ.nx = true := fun n ob h => S.ok_mem hst.ok h
  let g' : Gh := { g with has := fun n => if n = σ.nx then false else g.has n, hi := fun n => if n = σ.nx then 0 else g.hi n }
  have he : Ext σ.nx g g' := ⟨fun _ _ _ h => h, fun _ _ => rfl, fun n hn => if_neg (by omega), fun _ _ => rfl, fun n hn => if_neg (by omega)⟩
  have hi' : Inv κ g' σ.mem w := hst.inv.grow hmem he (Nat.le_refl _) (fun _ _ => rfl) (fun b o v h => .inl h) (fun b o v h => hst.inv.frz b o v h) rfl rfl rfl
  have hlook : ∀ k, look k ((σ.nx, Ob.vec t sz [] false) :: σ.mem) = if k = σ.nx then some (.vec t sz [] false) else look k σ.mem := fun k => look_cons _ _ _ _
  have hno : ¬ On g' ((σ.nx, .vec t sz [] false) :: σ.mem) σ.nx := by
    unfold On; rw [hlook, if_pos rfl]
    show ¬ (if σ.nx = σ.nx then false else g.has σ.nx) = true
    rw [if_pos rfl]; simp
  have on : ∀ k, On g' ((σ.nx, .vec t sz [] false) :: σ.mem) k → On g' σ.mem k := fun k h => by
    by_cases hk : k = σ.nx
    · subst hk; exact (hno h).elim
    · unfold On at h ⊢; rw [hlook, if_neg hk] at h; exact h
  have h1 : Inv κ g' ((σ.nx, .vec t sz [] false) :: σ.mem) w := by
    refine ⟨hi'.frz, fun k ob hk => ?_, fun k m hkm h h' => hi'.inj k m hkm (on k h) (on m h'), hi'.size, hi'.pres, fun k h => hi'.own k (on k h), hi'.f0, hi'.fnew, hi'.os, hi'.tape, hi'.output, hi'.dfr⟩
    rw [hlook] at hk
    by_cases hkk : k = σ.nx
    · subst hkk
      rw [if_pos rfl] at hk
      obtain rfl := Option.some.inj hk
      refine ⟨(fun x hx => by cases hx), fun _ => rfl, fun hh => ?_⟩
      have : (if σ.nx = σ.nx then false else g.has σ.nx) = true := hh
      rw [if_pos rfl] at this; cases this
    · rw [if_neg hkk] at hk; exact hi'.obs k ob hk
  obtain ⟨hnlt, holt⟩ := hmem n _ hn
  have hn1 : look n ((σ.nx, Ob.vec t sz [] false) :: σ.mem) = some (.cells size c) := by rw [hlook, if_neg (by omega)]; exact hn
  obtain ⟨arr, T, e1, e2, e3, e4, e5, e6⟩ := h1.obs n _ hn1
  have hjl : j < c.length := (List.getElem?_eq_some_iff.1 hc).1
  have h2 := h1.redo (o' := .cells size (c.set j (.vx sz σ.nx 0 0))) hn1 ⟨arr, T, e1, e2, by rw [List.length_set]; exact e3, fun k hk => by
      rw [List.getElem_set]
      split
      · rfl
      · exact e4 k (by simpa using hk), fun k hk => by
      rw [List.getElem_set]
      split
      · rename_i hjk
        subst hjk
        have h5 := e5 j hjl
        rw [show c[j] = .nl sz from (List.getElem?_eq_some_iff.1 hc).2] at h5
        generalize arr.getD j undef = u at h5 ⊢
        cases h5
        have hfn : ¬ (if σ.nx = σ.nx then false else g.has σ.nx) = true := by rw [if_pos rfl]; simp
        exact .vx _ _ _ _ _ _ (Nat.le_refl _) ⟨fun hh => absurd hh hfn, fun _ => ⟨rfl, rfl⟩, fun h => absurd h (Nat.lt_irrefl _)⟩
      · exact e5 k (by simpa using hk), e6⟩ (fun _ => by unfold On; rw [hn1]; trivial)
  refine ⟨g', hst.size, hst.defers, fun k v hk => (hst.sl k v hk).ext he (S.ok_sl hst.ok hk), h2, S.ok_iff.2 ⟨fun p hp => AV.lt_mono ((S.ok_iff.1 hst.ok).1 p hp) (Nat.le_succ _), fun p hp => ?_⟩⟩
  rcases List.mem_cons.1 hp with rfl | hp
  · refine ⟨Nat.lt_succ_of_lt hnlt, ?_⟩
    simp only [Ob.lt, List.all_eq_true] at holt ⊢
    intro x hx
    rcases List.mem_or_eq_of_mem_set hx with hx | rfl
    · exact AV.lt1_mono (holt x hx) (Nat.le_succ _)
    · simp [AV.lt1, AV.lt0]
  · rcases List.mem_cons.1 hp with rfl | hp
    · exact ⟨Nat.lt_succ_self _, rfl⟩
    · have := S.ok_memAll hst.ok p hp
      exact ⟨Nat.lt_succ_of_lt this.1, Ob.lt_mono this.2 (Nat.le_succ _)⟩
def hasNew (ops : List Oper) : Bool :=
  match ops[newAt 0 ops]? with
  | some o => match o.op with
    | .alloc _ => newB ops (newAt 0 ops) o (cut ops)
    | _ => false
  | none => false
theorem draw_newB (hti : TiOK P ti) (hm : P.follows .mixedOrders = true) {id : Nat} {ops : List Oper} {σ : S} {K : S → Prop} (hB : hasNew ops = true) (hK : newK P ti N ops (newAt 0 ops) (cut ops) σ K) : DrawS P ti N id ops σ K := draw_newA hti hm hK
end
end Go.Sy

/- States written out anew: what waits is known by fewer slots. Conditions: none. -/
namespace Go.Sy
set_option linter.unusedVariables false
set_option linter.unusedSimpArgs false
section
variable {P : Program} {ti : Nat → Option Ty} {N : Nat}
def ObW : Ob → Ob → Prop
  | .frame sz l, .frame sz' l' => sz = sz' ∧ EntL l l'
  | u, v => u = v
def obwAt (l : List (Nat × Ob)) (k : Nat) (v : Ob) : Prop :=
  match look k l with
  | some u => ObW u v
  | none => False
def EntF (l : List (Nat × Ob)) : List (Nat × Ob) → Prop
  | [] => True
  | (k, v) :: t => obwAt l k v ∧ EntF l t
theorem obw_fr {l : List (Nat × Ob)} {k sz : Nat} {u v : List (Nat × AV)} (h : look k l = some (.frame sz u)) (he : EntL u v) : obwAt l k (.frame sz v) := by
  unfold obwAt; rw [h]; exact ⟨rfl, he⟩
theorem obw_eq {l : List (Nat × Ob)} {k : Nat} {v : Ob} (hn : (match v with | .frame .. => false | _ => true) = true) (h : look k l = some v) : obwAt l k v := by
  unfold obwAt; rw [h]
  cases v <;> first | rfl | cases hn
theorem EntF.look {l m : List (Nat × Ob)} (h : EntF l m) {k : Nat} {v : Ob} (hk : look k m = some v) : ∃ u, look k l = some u ∧ ObW u v := by
  induction m with
  | nil => cases hk
  | cons p t ih =>
    obtain ⟨a, b⟩ := p
    rw [look_cons] at hk
    by_cases hka : k = a
    · subst hka
      rw [if_pos rfl] at hk
      obtain rfl := Option.some.inj hk
      have := h.1
      unfold obwAt at this
      cases hl : Sy.look k l with
      | none => rw [hl] at this; exact this.elim
      | some u => rw [hl] at this; exact ⟨u, rfl, this⟩
    · rw [if_neg hka] at hk
      exact ih h.2 hk
/-- A state written out anew. -/
theorem Wk.enF {σ τ : S} (hs : EntL σ.sl τ.sl) (hm : EntF σ.mem τ.mem) (hok : τ.ok = true) : Wk N σ τ := by
  refine ⟨fun κ g a w hst => ⟨g, ?_⟩⟩
  have on : ∀ n, On g τ.mem n → On g σ.mem n := fun n hn => by
    unfold On at hn ⊢
    cases hl : look n τ.mem with
    | none => rw [hl] at hn; exact hn.elim
    | some ob =>
      rw [hl] at hn
      obtain ⟨u, hu, hw⟩ := hm.look hl
      rw [hu]
      cases ob with
      | frame => exact hn.elim
      | _ => cases u <;> first | (cases hw; exact hn) | cases hw
  refine ⟨hst.size, hst.defers, fun k v hk => hst.sl k v (hs.look hk), ⟨hst.inv.frz, fun n ob hn => ?_, fun n m hnm h1 h2 => hst.inv.inj n m hnm (on n h1) (on m h2), hst.inv.size, hst.inv.pres, fun n hn => hst.inv.own n (on n hn), hst.inv.f0, hst.inv.fnew, hst.inv.os, hst.inv.tape, hst.inv.output, hst.inv.dfr⟩, hok⟩
  obtain ⟨u, hu, hw⟩ := hm.look hn
  have hob := hst.inv.obs n u hu
  cases ob with
  | frame sz l =>
    cases u with
    | frame sz' l' =>
      obtain ⟨rfl, he⟩ := hw
      exact ⟨hob.1, fun s v hs => hob.2 s v (he.look hs)⟩
    | _ => cases hw
  | _ => cases u <;> first | (cases hw; exact hob) | cases hw
theorem LoopS.wk {body : Code} {Q : Exit → S → Prop} {σ τ : S} (hw : Wk N σ τ) (h : LoopS P N body Q τ) : LoopS P N body Q σ := ⟨fun κ g a w hr hst => by
  obtain ⟨g', hst'⟩ := hw.run κ g a w hst
  exact h.run κ g' a w hr hst'⟩
theorem RangeS.wk {gop : Operand} {ps : Array Tmp} {asg body : Code} {Q : Exit → S → Prop} {σ τ : S} (hw : Wk N σ τ) (h : RangeS P ti N gop ps asg body Q τ) : RangeS P ti N gop ps asg body Q σ := ⟨fun κ g a w hr hst => by
  obtain ⟨g', hst'⟩ := hw.run κ g a w hst
  exact h.run κ g' a w hr hst'⟩
theorem DrawS.wk {id : Nat} {ops : List Oper} {σ τ : S} {K : S → Prop} (hw : Wk N σ τ) (h : DrawS P ti N id ops τ K) : DrawS P ti N id ops σ K := ⟨fun κ g a w hr hst => by
  obtain ⟨g', hst'⟩ := hw.run κ g a w hst
  exact h.run κ g' a w hr hst'⟩
/-- The first range over a function in a body: its record. -/
def rg : Code → Option (Array Nat × Code × Code)
  | .rangeFunc _ ps asg body => some (ps, asg, body)
  | .seq a b => match rg a with | some x => some x | none => rg b
  | .cond _ a b => match rg a with | some x => some x | none => rg b
  | .block _ c | .loop c | .scope c => rg c
  | _ => none
def rgL (k : Nat) (f : Func) : Ob :=
  match rg (bd f) with
  | some (ps, asg, body) => .loop k ps asg body .ready none
  | none => .frame 0 []
end
end Go.Sy

/- Calls that leave the world as it is. Conditions: none. -/
namespace Go.Sy
set_option linter.unusedVariables false
set_option linter.unusedSimpArgs false
section
variable {P : Program} {ti : Nat → Option Ty} {N : Nat}
/-- A call that leaves the world as it is. -/
theorem CallI.quiet {f : Nat} {o : Oper} {σ : S} {l : List AV} {r : AV} {K : S → Prop} (hcall : ∀ (vs : Array Value) (w : World), (callFunc f vs).run P w = .ok (.enter f vs) w)
    (hC : ∀ (g : Gh) (w : World) (vs : Array Value), vs.size = l.length → (∀ j (h : j < l.length), AVR g l[j] (vs.getD j undef)) → Calls P f vs w fun e w' => ∃ u, e = .returned u ∧ AVR g r u ∧ w' = w)
    (hlt : ∀ m, (∀ v ∈ l, v.lt m = true) → r.lt m = true) (h : K (σ.put o.dst r)) : CallI P N o σ f l K := by
  refine ⟨fun ⟨⟨x, xs, ats, first, cap, l', hop, hx, hl, hll⟩, hd⟩ κ g a w hst next Q hn => ?_⟩
  obtain ⟨vs, ws, hev, hsz, hav⟩ := call_vals hst hx hl
  have hlt' := call_lt hst.ok hx hl
  rw [← hll] at hsz hlt'
  have hexec : (execOp a.eval o).run P w = .ok (.enter f (vs ++ xs.map a.eval ++ ws)) w := by
    simp only [execOp, hop, resolve, hev, Deferred.ofValue, pure_bind, invoke]
    exact hcall _ _
  refine wp_enter hexec ((hC g w _ hsz fun j hj => ?_).mono fun e w' ⟨u, h1, h2, h3⟩ => ?_)
  · have h1 := hav j (by rw [← hll]; exact hj)
    have e : (first ++ l' ++ cap)[j]'(by rw [← hll]; exact hj) = l[j] := by simp only [← hll]
    rw [e] at h1
    exact h1
  · subst h3
    refine ⟨u, h1, hn g _ _ _ h ?_⟩
    cases hdst : o.dst with
    | none => exact hst
    | some d => exact hst.put (hd d hdst) (.refl _ _) hst.inv h2 (S.ok_cons hst.ok (Nat.le_refl _) (hlt _ hlt') (S.ok_memAll hst.ok))
theorem vals1 {vs : Array Value} {l : List AV} {v : AV} {g : Gh} (hl : l = [v]) (hsz : vs.size = l.length) (hav : ∀ j (h : j < l.length), AVR g l[j] (vs.getD j undef)) : ∃ u, vs = #[u] ∧ AVR g v u := by
  subst hl
  obtain ⟨xs⟩ := vs
  match xs, hsz with
  | [u], _ => exact ⟨u, rfl, hav 0 (by simp)⟩
/-- .. of a vector without elements: nothing is returned. -/
theorem CallI.none0 {f : Nat} {o : Oper} {σ : S} {l : List AV} {sz n i len : Nat} {K : S → Prop} (hcall : ∀ (vs : Array Value) (w : World), (callFunc f vs).run P w = .ok (.enter f vs) w) (hC : ∀ (p : Option Addr) (cap : Nat) (w : World), Calls P f #[.slice p 0 cap] w fun e w' => e = .returned (.tuple #[]) ∧ w' = w)
    (hl : l = [.vx sz n i len]) (h0 : len = 0) (h : K (σ.put o.dst (.tup []))) : CallI P N o σ f l K := by
  refine CallI.quiet hcall (fun g w vs hsz hav => ?_) (fun m _ => rfl) h
  obtain ⟨u, rfl, hu⟩ := vals1 hl hsz hav
  cases hu with | vx _ _ _ _ ad c hc had => ?_
  subst h0
  exact (hC ad c w).mono fun e w' ⟨h1, h2⟩ => ⟨_, h1, .tup [] #[] rfl (fun j hj => by cases hj), h2⟩
/-- .. it comes back. -/
theorem CallI.same0 {f : Nat} {o : Oper} {σ : S} {l : List AV} {sz n i len : Nat} {K : S → Prop} (hcall : ∀ (vs : Array Value) (w : World), (callFunc f vs).run P w = .ok (.enter f vs) w) (hC : ∀ (p : Option Addr) (cap : Nat) (w : World), Calls P f #[.slice p 0 cap] w fun e w' => e = .returned (.slice p 0 cap) ∧ w' = w)
    (hl : l = [.vx sz n i len]) (h0 : len = 0) (h : K (σ.put o.dst (.vx sz n i len))) : CallI P N o σ f l K := by
  refine CallI.quiet hcall (fun g w vs hsz hav => ?_) (fun m hm => hm _ (by rw [hl]; exact List.mem_cons_self)) h
  obtain ⟨u, rfl, hu⟩ := vals1 hl hsz hav
  have hu' := hu
  cases hu with | vx _ _ _ _ ad c hc had => ?_
  subst h0
  exact (hC ad c w).mono fun e w' ⟨h1, h2⟩ => ⟨_, h1, hu', h2⟩
end
end Go.Sy

/- The walk's rules, with their small proofs. Conditions: none. -/
namespace Go.Sy
set_option linter.unusedVariables false
theorem g_i64 {e : Int} {K : Int → Prop} (hK : K e) (h : -9223372036854775808 ≤ e ∧ e ≤ 9223372036854775807 := by first | omega | (with_unfolding_all exact Nat.le_of_ble_eq_true rfl) | (simp only [List.length_append, List.length_cons, List.length_nil, List.length_map, chunk_length]; omega)) : LetI (IntKind.i64.wrap e) K := LetI.i64 h hK
theorem g_u64 {e : Int} {K : Int → Prop} (hK : K e) (h : 0 ≤ e ∧ e ≤ 18446744073709551615 := by omega) : LetI (IntKind.u64.wrap e) K := LetI.u64 h hK
theorem g_u8 {e : Int} {K : Int → Prop} (hK : K e) (h : 0 ≤ e ∧ e ≤ 255 := by omega) : LetI (IntKind.u8.wrap e) K := LetI.u8 h hK
theorem g_iq {a b : Int} {K : Int → Prop} (hK : K (a / b)) (h : 0 ≤ a ∧ 0 ≤ b ∧ a ≤ 9223372036854775807 := by omega) : LetI (IntKind.i64.wrap (a.tdiv b)) K := LetI.i64q h hK
theorem g_uq {a b : Int} {K : Int → Prop} (hK : K (a / b)) (h : 0 ≤ a ∧ 0 ≤ b ∧ a ≤ 18446744073709551615 := by omega) : LetI (IntKind.u64.wrap (a.tdiv b)) K := LetI.u64q h hK
theorem g_rem {a b : Int} {K : Int → Prop} (hK : K (a % b)) (h : 0 ≤ a := by omega) : LetI (a.tmod b) K := LetI.rem h hK
theorem g_hm {α β : Type} {e : α → β} {l : List α} {k : Nat} {x : α} {K : β → Prop} (h : K (e x)) (hx : l[k]? = some x := by assumption) :
    (0 ≤ (k : Int) ∧ (k : Int) < (l.map e).length) ∧ ∀ c, (l.map e)[(k : Int).toNat]? = some c → K c := at_hm hx h
theorem g_hb {α : Type} {l : List α} {k : Nat} {x : α} {K : α → Prop} (h : K x) (hx : l[k]? = some x := by assumption) :
    (0 ≤ (k : Int) ∧ (k : Int) < l.length) ∧ ∀ c, l[(k : Int).toNat]? = some c → K c := at_hb hx h
theorem g_lit {α : Type} {l : List α} {n : Int} {x : α} {K : α → Prop} (h : K x) (h0 : 0 ≤ n ∧ n < l.length := by simp only [List.length_map, List.length_cons, List.length_nil]; omega) (hx : l[n.toNat]? = some x := by with_unfolding_all exact rfl) :
    (0 ≤ n ∧ n < l.length) ∧ ∀ c, l[n.toNat]? = some c → K c := at_lit h0 hx h
theorem g_nm8 {β : Type} {e : UInt8 → β} {l : List UInt8} {k : Nat} {K : β → Prop} (h : ∀ x, l[k]? = some x → x.toNat < 256 → K (e x)) (h1 : k < l.length := by omega) :
    (0 ≤ (k : Int) ∧ (k : Int) < (l.map e).length) ∧ ∀ c, (l.map e)[(k : Int).toNat]? = some c → K c := at_natm8 h1 h
theorem g_n8 {l : List UInt8} {k : Nat} {K : UInt8 → Prop} (h : ∀ x, l[k]? = some x → x.toNat < 256 → K x) (h1 : k < l.length := by omega) :
    (0 ≤ (k : Int) ∧ (k : Int) < l.length) ∧ ∀ c, l[(k : Int).toNat]? = some c → K c := at_nat8 h1 h
theorem g_b8 {l : List UInt8} {n : Int} {K : UInt8 → Prop} (h : ∀ x, l[n.toNat]? = some x → x.toNat < 256 → K x) (h0 : 0 ≤ n ∧ n < l.length := by omega) :
    (0 ≤ n ∧ n < l.length) ∧ ∀ c, l[n.toNat]? = some c → K c := at_bi8 h0 h
theorem g_nm {α β : Type} {e : α → β} {l : List α} {k : Nat} {K : β → Prop} (h : ∀ x, l[k]? = some x → K (e x)) (h1 : k < l.length := by omega) :
    (0 ≤ (k : Int) ∧ (k : Int) < (l.map e).length) ∧ ∀ c, (l.map e)[(k : Int).toNat]? = some c → K c := at_natm h1 h
theorem g_im {α β : Type} {e : α → β} {l : List α} {n : Int} {K : β → Prop} (h : ∀ x, l[n.toNat]? = some x → K (e x)) (h0 : 0 ≤ n ∧ n < l.length := by omega) :
    (0 ≤ n ∧ n < (l.map e).length) ∧ ∀ c, (l.map e)[n.toNat]? = some c → K c := at_intm h0 h
theorem g_n {α : Type} {l : List α} {k : Nat} {K : α → Prop} (h : ∀ x, l[k]? = some x → K x) (h1 : k < l.length := by omega) :
    (0 ≤ (k : Int) ∧ (k : Int) < l.length) ∧ ∀ c, l[(k : Int).toNat]? = some c → K c := at_nat h1 h
theorem g_b {α : Type} {l : List α} {n : Int} {K : α → Prop} (h : ∀ x, l[n.toNat]? = some x → K x) (h0 : 0 ≤ n ∧ n < l.length := by omega) :
    (0 ≤ n ∧ n < l.length) ∧ ∀ c, l[n.toNat]? = some c → K c := at_bi h0 h
theorem g_and {p q : Prop} (hq : q) (hp : p := by first | omega | (dsimp only; omega) | (with_unfolding_all exact Nat.le_of_ble_eq_true rfl) | (simp only [List.length_append, List.length_cons, List.length_nil, List.length_map, chunk_length]; omega)) : p ∧ q := ⟨hp, hq⟩
theorem g_c {b : Bool} {p q : Prop} (hp : p) (h : b = true := by first | exact rfl | exact (ble_tt (by first | omega | (dsimp only; omega))) | exact (blt_tt (by first | omega | (dsimp only; omega))) | exact band_tt rfl rfl | exact band_tt rfl (ble_tt (by first | omega | (dsimp only; omega))) | exact band_tt rfl (blt_tt (by first | omega | (dsimp only; omega))) | exact band_tt (ble_tt (by first | omega | (dsimp only; omega))) rfl | exact band_tt (ble_tt (by first | omega | (dsimp only; omega))) (ble_tt (by first | omega | (dsimp only; omega))) | exact band_tt (ble_tt (by first | omega | (dsimp only; omega))) (blt_tt (by first | omega | (dsimp only; omega))) | exact band_tt (blt_tt (by first | omega | (dsimp only; omega))) rfl | exact band_tt (blt_tt (by first | omega | (dsimp only; omega))) (ble_tt (by first | omega | (dsimp only; omega))) | exact band_tt (blt_tt (by first | omega | (dsimp only; omega))) (blt_tt (by first | omega | (dsimp only; omega)))) :
    @cond.match_1 (fun _ => Prop) b (fun _ => p) (fun _ => q) := cond_tt h hp
theorem g_some {α : Type} {o : Option α} {x : α} {K : α → Prop} (hK : K x) (h : o = some x := by with_unfolding_all exact rfl) : ∀ c, o = some c → K c := at_some h hK
theorem g_yk {b : Bool} {A B : Prop} (h : A) (hb : b = true := by decide +kernel) : Spl b A B := Spl.yes hb h
theorem g_nk {b : Bool} {A B : Prop} (h : B) (hb : b = false := by decide +kernel) : Spl b A B := Spl.no hb h
theorem g_y {b : Bool} {A B : Prop} (h : A) (hb : b = true := by first | with_reducible assumption | with_unfolding_all exact rfl | exact dtt (by omega) | exact ett (by omega) | exact ntt (by omega) | exact seq_tt (by with_unfolding_all assumption) | exact sne_tt (by with_unfolding_all assumption)) : Spl b A B := Spl.yes hb h
theorem g_f {b : Bool} {A B : Prop} (h : B) (hb : b = false := by first | with_reducible assumption | with_unfolding_all exact rfl | exact dff (by omega) | exact eff (by omega) | exact nff (by omega) | exact seq_ff (by with_unfolding_all assumption) | exact sne_ff (by with_unfolding_all assumption)) : Spl b A B := Spl.no hb h
end Go.Sy
