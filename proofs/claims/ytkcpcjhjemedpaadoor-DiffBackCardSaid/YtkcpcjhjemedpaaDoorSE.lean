/- A computing verification layer for data, proved sound over the library: what a body comes to, by its literal code. Conditions: none. -/
import Derived.Test.YtkcpcjhjemedpaaDoorSD
import Derived.OrdersIn
import Derived.Lib.Overlaps
set_option linter.all false
/- Loops in functions that were entered: the memory is kept as it is. Conditions: none. -/
namespace Go.Sy
set_option linter.unusedVariables false
set_option linter.unusedSimpArgs false
section
variable {P : Program} {ti : Nat → Option Ty} {N : Nat}

/-- Without what is shadowed. -/
def nubK {α : Type} : List (Nat × α) → List Nat → List (Nat × α)
  | [], _ => []
  | (k, v) :: t, s => bif memN k s then nubK t s else (k, v) :: nubK t (k :: s)

theorem look_nub {α : Type} : ∀ (l : List (Nat × α)) (s : List Nat) (k : Nat), k ∉ s → look k (nubK l s) = look k l
  | [], _, _, _ => rfl
  | (a, v) :: t, s, k, hk => by
    unfold nubK
    cases hm : memN a s with
    | true =>
      simp only [cond_true]
      rw [look_nub t s k hk, look_cons, if_neg]
      rintro rfl
      exact hk (memN_iff.1 hm)
    | false =>
      simp only [cond_false]
      rw [look_cons, look_cons]
      by_cases hka : k = a
      · rw [if_pos hka, if_pos hka]
      · rw [if_neg hka, if_neg hka, look_nub t (a :: s) k (by simp [hka, hk])]

theorem entL_of_look {α : Type} : ∀ {l m : List (Nat × α)}, (∀ p ∈ m, look p.1 l = some p.2) → EntL l m
  | _, [], _ => trivial
  | l, (k, v) :: t, h => ⟨by unfold eqAt; rw [h (k, v) List.mem_cons_self], entL_of_look fun p hp => h p (List.mem_cons_of_mem _ hp)⟩

theorem nub_mem {α : Type} : ∀ (l : List (Nat × α)) (s : List Nat) (p : Nat × α), p ∈ nubK l s → p.1 ∉ s ∧ look p.1 l = some p.2
  | [], _, _, h => by cases h
  | (a, v) :: t, s, p, h => by
    unfold nubK at h
    cases hm : memN a s with
    | true =>
      rw [hm] at h
      simp only [cond_true] at h
      obtain ⟨h1, h2⟩ := nub_mem t s p h
      refine ⟨h1, ?_⟩
      rw [look_cons, if_neg, h2]
      rintro rfl
      exact h1 (memN_iff.1 hm)
    | false =>
      rw [hm] at h
      simp only [cond_false] at h
      rcases List.mem_cons.1 h with rfl | h
      · refine ⟨fun hs => ?_, by rw [look_cons, if_pos rfl]⟩
        have := memN_iff.2 hs
        simp only at this
        rw [hm] at this; cases this
      · obtain ⟨h1, h2⟩ := nub_mem t (a :: s) p h
        simp only [List.mem_cons, not_or] at h1
        exact ⟨h1.2, by rw [look_cons, if_neg h1.1, h2]⟩

theorem entL_nub {α : Type} (l : List (Nat × α)) (s : List Nat) : EntL l (nubK l s) := entL_of_look fun p hp => (nub_mem l s p hp).2

/-- A round's end in a loop of an entered function: its slots; what it changed of the memory; the rest as it was. -/
def RoundM {α : Type} (I : α → Prop) (f : α → List (Nat × AV)) (h : α → List (Nat × Ob)) (ks : List Nat) (mem : List (Nat × Ob)) (nx : Nat) (μ : α → Nat) (Q : Exit → S → Prop) (x : α) : Exit → S → Prop
  | .normal, σ => ∃ y, I y ∧ μ y < μ x ∧ EntL σ.sl (f y) ∧ EntL σ.mem (h y ++ nubK mem ks) ∧ (f y).all (fun p => p.2.lt nx) = true ∧ (h y).all (fun p => Nat.blt p.1 nx && p.2.lt nx) = true
  | e, σ => Q e σ

theorem S.ok_parts {sl : List (Nat × AV)} {h mem : List (Nat × Ob)} {nx : Nat} {ks : List Nat} {s : List (Nat × AV)} (ho : (S.mk s mem nx).ok = true) (h1 : sl.all (fun p => p.2.lt nx) = true) (h2 : h.all (fun p => Nat.blt p.1 nx && p.2.lt nx) = true) : (S.mk sl (h ++ nubK mem ks) nx).ok = true := by
  simp only [S.ok, Bool.and_eq_true] at ho ⊢
  refine ⟨h1, ?_⟩
  rw [List.all_append, h2, Bool.true_and, List.all_eq_true]
  intro p hp
  exact List.all_eq_true.1 ho.2 p (look_mem (nub_mem mem ks p hp).2)

/-- A loop in an entered function. -/
theorem loop_mem {α : Type} {body : Code} {Q : Exit → S → Prop} {s : List (Nat × AV)} {mem : List (Nat × Ob)} {nx : Nat} (hti : TiOK P ti) (I : α → Prop) (f : α → List (Nat × AV)) (h : α → List (Nat × Ob)) (ks : List Nat) (μ : α → Nat) (x : α) (hx : I x) (h0 : EntL s (f x)) (hm : EntL mem (h x ++ nubK mem ks))
    (h1 : (f x).all (fun p => p.2.lt nx) = true) (h2 : (h x).all (fun p => Nat.blt p.1 nx && p.2.lt nx) = true)
    (step : ∀ x, I x → vc P ti N body (RoundM I f h ks mem nx μ Q x) ⟨f x, h x ++ nubK mem ks, nx⟩) : LoopS P N body Q ⟨s, mem, nx⟩ := by
  refine ⟨fun κ g a w hr hst => wpIn_loop_rounds (μ x + 1) ?_⟩
  have hok := hst.ok
  have key : ∀ n x (κ : Ctx) g a w, (κ.rd = none ∨ noRange body = true) → μ x < n → I x → St κ N g ⟨f x, h x ++ nubK mem ks, nx⟩ a w → Code.roundsIn (wd κ.rd) 0 P body (Post κ N Q) n a w := by
    intro n
    induction n with
    | zero => intro x κ g a w _ h; omega
    | succ n ih =>
      intro x κ g a w hr hlt hI hst
      rw [roundsIn_succ]
      refine wpIn_mono (vc_sound hti body _ _ (step x hI) κ g a w hr hst) fun e a' w' ⟨l, g', σ', hl, hq, hst'⟩ => ?_
      cases e with
      | normal =>
        obtain ⟨y, hy, hmu, e1, e2, e3, e4⟩ := hq
        have hen : En σ' ⟨f y, h y ++ nubK mem ks, nx⟩ := ⟨e1, e2, S.ok_parts hok e3 e4⟩
        exact roundsIn_mono (fun e a w hp => hp.app hl) n a' w' (ih y (κ.add l) g' a' w' hr (by omega) hy (hen.st hst'))
      | _ => exact ⟨l, g', σ', hl, hq, hst'⟩
  have hen : En ⟨s, mem, nx⟩ ⟨f x, h x ++ nubK mem ks, nx⟩ := ⟨h0, hm, S.ok_parts hok h1 h2⟩
  exact key _ x κ g a w hr (by omega) hx (hen.st hst)

theorem loop_mem0 {α : Type} {body : Code} {Q : Exit → S → Prop} {s : List (Nat × AV)} {mem : List (Nat × Ob)} {nx : Nat} (hti : TiOK P ti) (I : α → Prop) (f : α → List (Nat × AV)) (μ : α → Nat) (x : α) (hx : I x) (h0 : EntL s (f x))
    (h1 : (f x).all (fun p => p.2.lt nx) = true)
    (step : ∀ x, I x → vc P ti N body (RoundM I f (fun _ => []) [] mem nx μ Q x) ⟨f x, nubK mem [], nx⟩) : LoopS P N body Q ⟨s, mem, nx⟩ :=
  loop_mem hti I f (fun _ => []) [] μ x hx h0 (entL_nub mem []) h1 rfl step
theorem againM0 {α : Type} {I m : α → Prop} {f : α → List (Nat × AV)} {r : List (Nat × Ob)} {nx : Nat} {σ : S} (y : α) (hI : I y) (hμ : m y) (h1 : EntL σ.sl (f y)) (h2 : EntL σ.mem r) (h3 : (f y).all (fun p => p.2.lt nx) = true) :
    ∃ y, I y ∧ m y ∧ EntL σ.sl (f y) ∧ EntL σ.mem r ∧ (f y).all (fun p => p.2.lt nx) = true ∧ ([] : List (Nat × Ob)).all (fun p => Nat.blt p.1 nx && p.2.lt nx) = true := ⟨y, hI, hμ, h1, h2, h3, rfl⟩
theorem againM {α : Type} {I m : α → Prop} {f : α → List (Nat × AV)} {h : α → List (Nat × Ob)} {r : List (Nat × Ob)} {nx : Nat} {σ : S} (y : α) (hI : I y) (hμ : m y) (h1 : EntL σ.sl (f y)) (h2 : EntL σ.mem (h y ++ r)) (h3 : (f y).all (fun p => p.2.lt nx) = true) (h4 : (h y).all (fun p => Nat.blt p.1 nx && p.2.lt nx) = true) :
    ∃ y, I y ∧ m y ∧ EntL σ.sl (f y) ∧ EntL σ.mem (h y ++ r) ∧ (f y).all (fun p => p.2.lt nx) = true ∧ (h y).all (fun p => Nat.blt p.1 nx && p.2.lt nx) = true := ⟨y, hI, hμ, h1, h2, h3, h4⟩
end
theorem AtA.eq {K : AV → Prop} {a v : AV} (e : a = v) (h : K v) : AtA a K := ⟨by rw [e]; exact h⟩
theorem AtA.mk' {K : AV → Prop} {a : AV} (h : K a) : AtA a K := ⟨h⟩
theorem at_some {α : Type} {o : Option α} {x : α} {K : α → Prop} (h : o = some x) (hK : K x) : ∀ c, o = some c → K c := fun c hc => by rw [h] at hc; rw [← Option.some.inj hc]; exact hK
theorem blt_tt {a b : Nat} (h : a < b) : Nat.blt a b = true := Nat.ble_eq_true_of_le h
end Go.Sy

/- Loops in entered functions, whose names may grow. Conditions: none. -/
namespace Go.Sy
set_option linter.unusedVariables false
set_option linter.unusedSimpArgs false
section
variable {P : Program} {ti : Nat → Option Ty} {N : Nat}
def RoundG {α : Type} (I : α → Prop) (f : α → List (Nat × AV)) (h : α → List (Nat × Ob)) (ks : List Nat) (mem : List (Nat × Ob)) (nx : α → Nat) (μ : α → Nat) (Q : Exit → S → Prop) (x : α) : Exit → S → Prop
  | .normal, σ => ∃ y, I y ∧ μ y < μ x ∧ EntL σ.sl (f y) ∧ EntL σ.mem (h y ++ nubK mem ks) ∧ (f y).all (fun p => p.2.lt (nx y)) = true ∧ (h y).all (fun p => Nat.blt p.1 (nx y) && p.2.lt (nx y)) = true
  | e, σ => Q e σ

theorem S.ok_partsG {sl : List (Nat × AV)} {h mem : List (Nat × Ob)} {nx nx' : Nat} {ks : List Nat} {s : List (Nat × AV)} (ho : (S.mk s mem nx).ok = true) (hn : nx ≤ nx') (h1 : sl.all (fun p => p.2.lt nx') = true) (h2 : h.all (fun p => Nat.blt p.1 nx' && p.2.lt nx') = true) : (S.mk sl (h ++ nubK mem ks) nx').ok = true := by
  refine S.ok_parts (s := s) ?_ h1 h2
  obtain ⟨k1, k2⟩ := S.ok_iff.1 ho
  refine S.ok_iff.2 ⟨fun p hp => AV.lt_mono (k1 p hp) hn, fun p hp => ⟨?_, Ob.lt_mono (k2 p hp).2 hn⟩⟩
  exact Nat.lt_of_lt_of_le (k2 p hp).1 hn

theorem loop_memG {α : Type} {body : Code} {Q : Exit → S → Prop} {s : List (Nat × AV)} {mem : List (Nat × Ob)} {nx0 : Nat} (hti : TiOK P ti) (I : α → Prop) (f : α → List (Nat × AV)) (h : α → List (Nat × Ob)) (ks : List Nat) (nx : α → Nat) (μ : α → Nat) (x : α) (hnx : ∀ x, nx0 ≤ nx x) (hx : I x) (h0 : EntL s (f x)) (hm : EntL mem (h x ++ nubK mem ks))
    (h1 : (f x).all (fun p => p.2.lt (nx x)) = true) (h2 : (h x).all (fun p => Nat.blt p.1 (nx x) && p.2.lt (nx x)) = true)
    (step : ∀ x, I x → vc P ti N body (RoundG I f h ks mem nx μ Q x) ⟨f x, h x ++ nubK mem ks, nx x⟩) : LoopS P N body Q ⟨s, mem, nx0⟩ := by
  refine ⟨fun κ g a w hr hst => wpIn_loop_rounds (μ x + 1) ?_⟩
  have hok := hst.ok
  have key : ∀ n x (κ : Ctx) g a w, (κ.rd = none ∨ noRange body = true) → μ x < n → I x → St κ N g ⟨f x, h x ++ nubK mem ks, nx x⟩ a w → Code.roundsIn (wd κ.rd) 0 P body (Post κ N Q) n a w := by
    intro n
    induction n with
    | zero => intro x κ g a w _ h; omega
    | succ n ih =>
      intro x κ g a w hr hlt hI hst
      rw [roundsIn_succ]
      refine wpIn_mono (vc_sound hti body _ _ (step x hI) κ g a w hr hst) fun e a' w' ⟨l, g', σ', hl, hq, hst'⟩ => ?_
      cases e with
      | normal =>
        obtain ⟨y, hy, hmu, e1, e2, e3, e4⟩ := hq
        have hen : En σ' ⟨f y, h y ++ nubK mem ks, nx y⟩ := ⟨e1, e2, S.ok_partsG hok (hnx y) e3 e4⟩
        exact roundsIn_mono (fun e a w hp => hp.app hl) n a' w' (ih y (κ.add l) g' a' w' hr (by omega) hy (hen.st hst'))
      | _ => exact ⟨l, g', σ', hl, hq, hst'⟩
  have hen : En ⟨s, mem, nx0⟩ ⟨f x, h x ++ nubK mem ks, nx x⟩ := ⟨h0, hm, S.ok_partsG hok (hnx x) h1 h2⟩
  exact key _ x κ g a w hr (by omega) hx (hen.st hst)

theorem againG {α : Type} {I m : α → Prop} {f : α → List (Nat × AV)} {h : α → List (Nat × Ob)} {r : List (Nat × Ob)} {nx : α → Nat} {σ : S} (y : α) (hI : I y) (hμ : m y) (h1 : EntL σ.sl (f y)) (h2 : EntL σ.mem (h y ++ r)) (h3 : (f y).all (fun p => p.2.lt (nx y)) = true) (h4 : (h y).all (fun p => Nat.blt p.1 (nx y) && p.2.lt (nx y)) = true) :
    ∃ y, I y ∧ m y ∧ EntL σ.sl (f y) ∧ EntL σ.mem (h y ++ r) ∧ (f y).all (fun p => p.2.lt (nx y)) = true ∧ (h y).all (fun p => Nat.blt p.1 (nx y) && p.2.lt (nx y)) = true := ⟨y, hI, hμ, h1, h2, h3, h4⟩
end
end Go.Sy

/- Drawn regions: a move that may come anywhere is taken first. Conditions: none. -/
namespace Go.Sy
set_option linter.unusedVariables false
set_option linter.unusedSimpArgs false
section
variable {P : Program} {ti : Nat → Option Ty} {N : Nat} {F : Fence} {n : Nat}

theorem move_run {o : Oper} {x : Operand} (h : o.op = .move x) (ev : Operand → Value) (w : World) : (execOp ev o).run P w = .ok (.value (ev x)) w := by
  simp only [execOp, h, Sem.run_pure]

theorem wpOpIn_move {ops : Array Oper} {Q : Exit → Act → World → Prop} {i : Nat} {o : Oper} {x : Operand} (hi : ops[i]? = some o) (ho : o.op = .move x) (hg : o.guard = none) {K : Act → World → Prop} {a : Act} {w : World} (h : K (a.put o.dst (a.eval x)) w) : wpOpIn F n P ops Q i K a w := by
  unfold Go.wpOpIn
  simp only [hi]
  rw [if_pos (wanted_none hg)]
  refine ⟨fun f hf => ?_, ?_⟩
  · unfold Oper.about at hf; rw [ho] at hf; cases hf
  · rw [Oper.semAt_eq _ _ _ (fun c => by rw [ho]; intro h; cases h), move_run ho]
    exact h

theorem put_eval {a : Act} {x : Operand} {d : Option Tmp} {u : Value} (h : ∀ e, d = some e → x ≠ .tmp e) : (a.put d u).eval x = a.eval x := Act.eval_put h

theorem wpOpIn_put' {ops : Array Oper} {Q : Exit → Act → World → Prop} {j : Nat} {oi oj : Oper} {x : Operand} (hj : ops[j]? = some oj) (ho : oi.op = .move x) (hap : oi.apart ops oj = true)
    (hsj : ∀ cs b, oj.op ≠ .select cs b) (hdj : ∀ c, oj.op ≠ .defer c) (hQ : ∀ c a w, ¬ Q (.panic c) a w) {K : Act → World → Prop} {a : Act} {w : World}
    (h : wpOpIn F n P ops Q j K (a.put oi.dst (a.eval x)) w) :
    wpOpIn F n P ops Q j (fun a' w' => K (a'.put oi.dst (a'.eval x)) w') a w := by
  obtain ⟨h1, h2, h3⟩ := Oper.apart_spec hap
  have hx : ∀ (a : Act) u, (a.put oj.dst u).eval x = a.eval x := fun a u => put_eval fun e he hxe => h3 e he (by
    subst hxe
    unfold Oper.looksAt
    exact List.mem_append_left _ (List.mem_filterMap.2 ⟨.tmp e, by rw [ho]; simp [Op.operands], rfl⟩))
  have cm : ∀ (a : Act) u, (a.put oj.dst u).put oi.dst ((a.put oj.dst u).eval x) = (a.put oi.dst (a.eval x)).put oj.dst u := fun a u => by rw [hx, ← Act.put_comm a _ u h2]
  unfold wpOpIn at *
  simp only [hj] at *
  rw [wanted_put oj a oi.dst _ h1, about_put oj w a oi.dst _ h1] at h
  split
  · rename_i hw
    simp only [hw, if_true] at h
    unfold Oper.wpIn at *
    rw [about_put oj w a oi.dst _ h1] at h
    refine ⟨h.1, ?_⟩
    have h := h.2
    rw [Oper.semAt_eq _ _ _ hdj, execOp_put oj hsj a oi.dst _ h1] at h
    rw [Oper.semAt_eq _ _ _ hdj]
    generalize (execOp a.eval oj).run P w = r at *
    cases r with
    | ok y w' =>
      cases y <;> simp only [Oper.uponIn] at h ⊢
      case value u => rw [cm]; exact h
      case skip => rw [cm]; exact h
      case defer d =>
        have e : ({ a with defers := d :: a.defers } : Act).eval x = a.eval x := rfl
        rw [cm, e, ← Act.put_defers]
        exact h
      case enter f args =>
        refine ⟨h.1, CallsIn.mono h.2 fun e w'' he => ?_⟩
        cases e with
        | returned u => show K _ _; rw [cm]; exact he
        | panicked c => exact (hQ _ _ _ he).elim
        | outgrown => exact he
      case row row args => exact ⟨h.1, RowsIn.mono h.2 fun u w'' he => (by rw [cm]; exact he)⟩
      case round l f tmps assign body =>
        refine ⟨h.1, RoundIn.mono h.2 fun e w'' he => ?_⟩
        cases e with
        | returned u => show K _ _; rw [cm]; exact he
        | panicked c => exact (hQ _ _ _ he).elim
        | outgrown => exact he
    | halt y w' =>
      cases y <;> simp only [Oper.uponIn] at h ⊢
      case panic u => exact (hQ _ _ _ h).elim
  · rename_i hw
    simp only [hw] at h
    refine ⟨h.1, ?_⟩
    rw [cm]; exact h.2

theorem wpAnyIn_move {ops : Array Oper} {Q : Exit → Act → World → Prop} {md : Region.Mode} {i : Nat} {oi : Oper} {x : Operand} (hi : ops[i]? = some oi) (ho : oi.op = .move x) (hg : oi.guard = none)
    (hsel : ∀ (j : Nat) (o : Oper), ops[j]? = some o → (∀ cs b, o.op ≠ .select cs b) ∧ ∀ c, o.op ≠ .defer c) (hQ : ∀ c a w, ¬ Q (.panic c) a w) :
    ∀ (fuel : Nat) (listed : Array Bool) (a : Act) (w : World),
      (∀ j oj, ops[j]? = some oj → j ≠ i → listed.getD j true = false → (∀ e ∈ oj.after, Region.binds md e = true → e.on ≠ i) → oi.apart ops oj = true) →
      i ∈ Region.ready md ops listed →
      wpAnyIn F n P md ops Q fuel (listed.setIfInBounds i true) (a.put oi.dst (a.eval x)) w → wpAnyIn F n P md ops Q (fuel + 1) listed a w := by
  intro fuel
  induction fuel with
  | zero =>
    intro listed a w _ hr H
    refine ⟨fun h => (by rw [h] at hr; cases hr), fun j hj => ?_⟩
    by_cases hji : j = i
    · subst hji; exact wpOpIn_move hi ho hg H
    · have := ready_mono hj hji
      rw [H.1] at this
      cases this
  | succ fuel ih =>
    intro listed a w hfree hr H
    refine ⟨fun h => (by rw [h] at hr; cases hr), fun j hj => ?_⟩
    by_cases hji : j = i
    · subst hji; exact wpOpIn_move hi ho hg H
    · have h1 := H.2 j (ready_mono hj hji)
      obtain ⟨hjun, oj, hoj, hall⟩ := mem_ready.1 hj
      have hnot : ∀ e ∈ oj.after, Region.binds md e = true → e.on ≠ i := fun e he hb heq => by
        have h1 := hall e he hb
        have h0 := (mem_ready.1 hr).1
        rw [heq] at h1
        rcases Nat.lt_or_ge i listed.size with h' | h'
        · simp [h'] at h0 h1; rw [h0] at h1; cases h1
        · simp [Array.getElem?_eq_none h'] at h1
      have h2 := wpOpIn_put' hoj ho (hfree j oj hoj hji hjun hnot) (hsel j oj hoj).1 (hsel j oj hoj).2 hQ h1
      have hfree' : ∀ k ok, ops[k]? = some ok → k ≠ i → (listed.setIfInBounds j true).getD k true = false →
          (∀ e ∈ ok.after, Region.binds md e = true → e.on ≠ i) → oi.apart ops ok = true := fun k ok hk hki hun hno => by
        refine hfree k ok hk hki ?_ hno
        by_cases hjk : j = k
        · subst hjk; exact hjun
        · rw [getD_set_ne true hjk] at hun; exact hun
      refine wpOpIn_mono (fun a' w' h3 => ih (listed.setIfInBounds j true) a' w' hfree' (ready_mono hr (Ne.symm hji)) ?_) h2
      rw [Array.setIfInBounds_comm _ _ hji]
      exact h3

/-! ### Without an operation that is done -/
theorem blt_ff {a b : Nat} (h : ¬ a < b) : Nat.blt a b = false := by
  cases hq : Nat.blt a b with
  | false => rfl
  | true => exact absurd (by simpa using hq) h

def up (h i : Nat) : Nat := bif Nat.blt i h then i else i + 1
def dn (h j : Nat) : Nat := bif Nat.blt j h then j else j - 1
theorem up_dn {h j : Nat} (hj : j ≠ h) : up h (dn h j) = j := by
  unfold up dn
  by_cases hjh : j < h
  · simp [blt_tt hjh]
  · rw [blt_ff hjh, cond_false, blt_ff (by omega), cond_false]; omega
theorem up_ne (h i : Nat) : up h i ≠ h := by
  unfold up
  by_cases hjh : i < h
  · rw [blt_tt hjh, cond_true]; omega
  · rw [blt_ff hjh, cond_false]; omega
theorem up_inj {h i j : Nat} (e : up h i = up h j) : i = j := by
  unfold up at e
  by_cases hi : i < h
  · by_cases hj : j < h
    · rwa [blt_tt hi, blt_tt hj] at e
    · rw [blt_tt hi, blt_ff hj, cond_true, cond_false] at e; omega
  · by_cases hj : j < h
    · rw [blt_ff hi, blt_tt hj, cond_true, cond_false] at e; omega
    · rw [blt_ff hi, blt_ff hj, cond_false, cond_false] at e; omega
def edl (h : Nat) : List Edge → List Edge
  | [] => []
  | e :: t => bif Nat.beq e.on h then edl h t else { e with on := dn h e.on } :: edl h t
def strip (h : Nat) (o : Oper) : Oper := { o with after := (edl h o.after.toList).toArray, guard := match o.guard with | none => none | some (j, c) => some (dn h j, c) }
def delOp : Nat → Nat → List Oper → List Oper
  | _, _, [] => []
  | h, 0, _ :: t => t.map (strip h)
  | h, k + 1, o :: t => strip h o :: delOp h k t
theorem edl_mem {h : Nat} {e : Edge} (he : e.on ≠ h) : ∀ {l : List Edge}, e ∈ l → ({ e with on := dn h e.on } : Edge) ∈ edl h l
  | e' :: t, hm => by
    unfold edl
    rcases List.mem_cons.1 hm with rfl | hm
    · rw [show Nat.beq e.on h = false from beq_false he]; exact List.mem_cons_self
    · cases Nat.beq e'.on h with
      | true => exact edl_mem he hm
      | false => exact List.mem_cons_of_mem _ (edl_mem he hm)
theorem del_get {h : Nat} : ∀ (k : Nat) (l : List Oper) (i : Nat), (delOp h k l)[i]? = (l[bif Nat.blt i k then i else i + 1]?).map (strip h)
  | 0, [], i => by simp [delOp]
  | k + 1, [], i => by simp [delOp]
  | 0, o :: t, i => by
    simp [delOp, blt_ff (show ¬ i < 0 by omega)]
  | k + 1, o :: t, 0 => by simp [delOp, blt_tt (show 0 < k + 1 by omega)]
  | k + 1, o :: t, i + 1 => by
    simp only [delOp, List.getElem?_cons_succ, del_get k t i]
    by_cases hi : i < k
    · simp [blt_tt hi, blt_tt (show i + 1 < k + 1 by omega)]
    · simp [blt_ff hi, blt_ff (show ¬ i + 1 < k + 1 by omega)]
theorem del_at {h : Nat} (l : List Oper) (i : Nat) : (delOp h h l)[i]? = (l[up h i]?).map (strip h) := del_get h l i
theorem del_len {h : Nat} : ∀ (k : Nat) (l : List Oper), k < l.length → (delOp h k l).length + 1 = l.length
  | 0, o :: t, _ => by simp [delOp]
  | k + 1, o :: t, hk => by simp only [delOp, List.length_cons]; rw [del_len k t (by simpa using hk)]
  | 0, [], hk => by simp at hk
  | k + 1, [], hk => by simp at hk
theorem strip_wpIn {h : Nat} {o : Oper} {K : Act → World → Prop} {Q : Exit → Act → World → Prop} {a : Act} {w : World} (hh : (strip h o).wpIn F n P a w K Q) : o.wpIn F n P a w K Q := hh
theorem wanted_strip {h : Nat} {o : Oper} {y y' : Nat → Option Bool} (hy : ∀ j c, o.guard = some (j, c) → y' (dn h j) = y j) : Region.wanted (strip h o) y' = Region.wanted o y := by
  unfold Region.wanted strip
  cases hg : o.guard with
  | none => rfl
  | some gc =>
    obtain ⟨j, c⟩ := gc
    simp only
    rw [hy j c hg]
theorem yielded_del {h : Nat} {ops : List Oper} {t : Array Value} {j : Nat} (hj : j ≠ h) : yielded (delOp h h ops).toArray t (dn h j) = yielded ops.toArray t j := by
  unfold yielded
  have e : ((delOp h h ops).toArray[dn h j]?).bind (·.dst) = (ops.toArray[j]?).bind (·.dst) := by
    have h1 : (delOp h h ops).toArray[dn h j]? = (ops.toArray[j]?).map (strip h) := by
      have := del_at (h := h) ops (dn h j)
      rw [up_dn hj] at this
      simpa using this
    rw [h1]
    cases ops.toArray[j]? <;> rfl
  rw [e]
/-- What is listed of the rest. -/
def Lik (h : Nat) (l l' : Array Bool) : Prop := ∀ i b, l'.getD i b = l.getD (up h i) b
theorem size_iff {l l' : Array Bool} {i j : Nat} (hb : ∀ b, l'.getD i b = l.getD j b) : j < l.size ↔ i < l'.size := by
  have a1 := hb true
  have a2 := hb false
  by_cases h1 : j < l.size
  · by_cases h2 : i < l'.size
    · simp [h1, h2]
    · rw [show l'.getD i true = true by simp [Array.getD, h2]] at a1
      rw [show l'.getD i false = false by simp [Array.getD, h2]] at a2
      rw [show l.getD j true = l.getD j false by simp [Array.getD, h1], ← a2] at a1
      cases a1
  · by_cases h2 : i < l'.size
    · rw [show l.getD j true = true by simp [Array.getD, h1]] at a1
      rw [show l.getD j false = false by simp [Array.getD, h1]] at a2
      rw [show l'.getD i true = l'.getD i false by simp [Array.getD, h2], a2] at a1
      cases a1
    · simp [h1, h2]
theorem any_del {ops : List Oper} {Q : Exit → Act → World → Prop} {h : Nat} (hg : ∀ (j : Nat) (o : Oper), ops[j]? = some o → ∀ i c, o.guard = some (i, c) → i ≠ h) :
    ∀ (fuel : Nat) (l l' : Array Bool) (a : Act) (w : World), Lik h l l' → l.getD h true = true → l.getD h false = true →
      wpAnyIn F n P .any (delOp h h ops).toArray Q fuel l' a w → wpAnyIn F n P .any ops.toArray Q fuel l a w := by
  have rdy : ∀ (l l' : Array Bool), Lik h l l' → l.getD h true = true → l.getD h false = true → ∀ j, j ∈ Region.ready .any ops.toArray l → j ≠ h ∧ dn h j ∈ Region.ready .any (delOp h h ops).toArray l' := fun l l' hl h1 h2 j hj => by
    obtain ⟨k1, o, k2, k3⟩ := mem_ready.1 hj
    have hjh : j ≠ h := fun e => by rw [e, h1] at k1; cases k1
    refine ⟨hjh, mem_ready.2 ⟨by rw [hl, up_dn hjh]; exact k1, strip h o, ?_, fun e he hb => ?_⟩⟩
    · have := del_at (h := h) ops (dn h j)
      rw [up_dn hjh] at this
      have k2' : ops[j]? = some o := by simpa using k2
      rw [k2'] at this
      simpa using this
    · have key : ∀ (es : List Edge), (∀ e ∈ es, Region.binds .any e = true → l.getD e.on false = true) → ∀ e ∈ edl h es, Region.binds .any e = true → l'.getD e.on false = true := by
        intro es
        induction es with
        | nil => intro _ e he; cases he
        | cons e0 t ih =>
          intro hes e he hb
          unfold edl at he
          cases hq : Nat.beq e0.on h with
          | true =>
            rw [hq] at he
            exact ih (fun e he => hes e (List.mem_cons_of_mem _ he)) e he hb
          | false =>
            rw [hq] at he
            rcases List.mem_cons.1 he with rfl | he
            · have hne : e0.on ≠ h := fun e' => by rw [e', Nat.beq_refl] at hq; cases hq
              show l'.getD (dn h e0.on) false = true
              rw [hl, up_dn hne]
              exact hes e0 List.mem_cons_self hb
            · exact ih (fun e he => hes e (List.mem_cons_of_mem _ he)) e he hb
      exact key o.after.toList (fun e he hb => k3 e (by simpa using he) hb) e (by simpa [strip] using he) hb
  intro fuel
  induction fuel with
  | zero =>
    intro l l' a w hl h1 h2 hh
    refine ⟨?_, hh.2⟩
    rw [List.eq_nil_iff_forall_not_mem]
    intro j hj
    have := (rdy l l' hl h1 h2 j hj).2
    rw [hh.1] at this; cases this
  | succ fuel ih =>
    intro l l' a w hl h1 h2 hh
    refine ⟨fun h0 => hh.1 ?_, fun j hj => ?_⟩
    · rw [List.eq_nil_iff_forall_not_mem]
      intro i hi
      obtain ⟨k1, o, k2, k3⟩ := mem_ready.1 hi
      have k2' : (delOp h h ops)[i]? = some o := by simpa using k2
      rw [del_at] at k2'
      obtain ⟨o', e1, e2⟩ := Option.map_eq_some_iff.1 k2'
      have : up h i ∈ Region.ready .any ops.toArray l := by
        refine mem_ready.2 ⟨by rw [← hl]; exact k1, o', by simpa using e1, fun e he hb => ?_⟩
        by_cases hne : e.on = h
        · rw [hne]; exact h2
        · have hm : ({ e with on := dn h e.on } : Edge) ∈ o.after := by
            subst e2
            simpa [strip] using edl_mem hne (by simpa using he)
          have := k3 _ hm hb
          rw [hl, up_dn hne] at this
          exact this
      rw [h0] at this; cases this
    · obtain ⟨hjh, hr⟩ := rdy l l' hl h1 h2 j hj
      have hs := hh.2 _ hr
      obtain ⟨_, o, k2, _⟩ := mem_ready.1 hj
      have k2' : ops[j]? = some o := by simpa using k2
      have hd : (delOp h h ops).toArray[dn h j]? = some (strip h o) := by
        have := del_at (h := h) ops (dn h j)
        rw [up_dn hjh, k2'] at this
        simpa using this
      unfold wpOpIn at hs ⊢
      rw [hd] at hs
      rw [k2]
      simp only at hs ⊢
      rw [wanted_strip (fun i c hgc => yielded_del (hg j o k2' i c hgc))] at hs
      have nxt : ∀ a w, wpAnyIn F n P .any (delOp h h ops).toArray Q fuel (l'.setIfInBounds (dn h j) true) a w → wpAnyIn F n P .any ops.toArray Q fuel (l.setIfInBounds j true) a w := fun a w hx => by
        refine ih _ _ a w (fun i b => ?_) ?_ ?_ hx
        · by_cases hij : dn h j = i
          · subst hij
            rw [up_dn hjh]
            have hsz := size_iff (l := l) (l' := l') (i := dn h j) (j := j) (fun b => by have := hl (dn h j) b; rwa [up_dn hjh] at this)
            by_cases hjl : j < l.size
            · rw [getD_set_self b (hsz.1 hjl), getD_set_self b hjl]
            · have hjl' : ¬ dn h j < l'.size := fun h' => hjl (hsz.2 h')
              simp [Array.getD, hjl', hjl]
          · rw [getD_set_ne b hij, getD_set_ne b (fun e => hij (up_inj (by rw [up_dn hjh]; exact e))), hl]
        · rw [getD_set_ne true hjh]; exact h1
        · rw [getD_set_ne false hjh]; exact h2
      split
      · rename_i hw
        simp only [hw, if_true] at hs
        exact Oper.wpIn_mono nxt (strip_wpIn hs)
      · rename_i hw
        simp only [hw] at hs
        exact ⟨hs.1, nxt _ _ hs.2⟩

/-- A drawn region, from any state on, for what asks nothing but the normal end. -/
structure DrawA (P : Program) (ti : Nat → Option Ty) (N : Nat) (ops : List Oper) (σ : S) (K : S → Prop) : Prop where
  run : ∀ (κ : Ctx) (g : Gh) (a : Act) (w : World), St κ N g σ a w → ∀ Q : Exit → Act → World → Prop, (∀ g' σ' a' w', K σ' → St κ N g' σ' a' w' → Q .normal a' w') → (∀ c a w, ¬ Q (.panic c) a w) →
    wpAnyIn (wd κ.rd) 0 P .any ops.toArray Q ops.length (Array.replicate ops.length false) a w

theorem DrawS.of_A {id : Nat} {ops : List Oper} {σ : S} {K : S → Prop} (hm : P.follows .mixedOrders = true) (h : DrawA P ti N ops σ K) : DrawS P ti N id ops σ K := by
  refine ⟨fun κ g a w _ hst => wpIn_region_any hm ?_⟩
  have hst' : St κ N g σ a { w with drawn := w.drawn + 1 } := ⟨hst.size, hst.defers, hst.sl, hst.inv.drew _, hst.ok⟩
  rw [List.size_toArray]
  refine h.run κ g a _ hst' _ (fun g' σ' a' w' hK hst2 => .of hK hst2) (fun c a w hp => ?_)
  obtain ⟨_, _, _, _, hf, _⟩ := hp
  exact hf

theorem drawA_rule (hti : TiOK P ti) {ops : List Oper} {σ : S} {K : S → Prop} (m : Nat) (hB : drawOK ops m = true) (h : evPre P ti N ops (ops.take m) σ fun σ' => evOps P ti N ops (ops.drop m) σ' K) : DrawA P ti N ops σ K := by
  unfold drawOK at hB
  split at hB
  · rename_i ms hms
    simp only [Bool.and_eq_true] at hB
    obtain ⟨⟨hm', hw⟩, hf⟩ := hB
    have hml := Nat.le_of_ble_eq_true hm'
    refine ⟨fun κ g a w hst Q hQ _ => ?_⟩
    obtain ⟨vs, σ', htail, hok', hmem, hnx, hch⟩ := evPre_chain hti _ σ hst.ok h
    have := any_pre (Q := Q) hti hms hml (fun i' h1 h2 => forced_spec hf i' h1 (by omega)) hw hst.ok hok' hmem hnx hch hQ htail m (List.range m) (Array.replicate ops.length false) g a w
        List.length_range List.nodup_range (fun k => by
          rw [List.mem_range]
          refine ⟨fun hk => ⟨hk, by simp [Array.getD, show k < ops.length by omega]⟩, fun hk => hk.1⟩) (by simp) (fun k _ hk => by simp [Array.getD, hk]) (fun k o _ hk => by simp [Array.getD] at hk)
        ⟨hst.size, hst.defers, hst.inv, fun i d hi => by simp [Array.getD] at hi, fun k v hk _ => hst.sl k v hk⟩
    rw [show m + (ops.length - m) = ops.length by omega] at this
    exact this
  · cases hB

def isMv : Op → Bool
  | .move _ => true
  | _ => false
def noSD : Op → Bool
  | .select .. | .defer _ => false
  | _ => true
def grdNe (h : Nat) (o : Oper) : Bool := match o.guard with | none => true | some (j, _) => !Nat.beq j h
def hoistB (N : Nat) (ops : List Oper) (h : Nat) : Bool :=
  match ops[h]? with
  | some o => isMv o.op && (match o.guard with | none => true | some _ => false) && (match o.dst with | some d => Nat.blt d N | none => false) && o.after.toList.all (fun e => !Region.binds .any e) && ops.all (fun o => noSD o.op && grdNe h o) &&
      Region.free .any ops.toArray (Array.replicate ops.length false) h
  | none => false
def hoistK (ops : List Oper) (h : Nat) (σ : S) (K' : S → Prop) : Prop :=
  match ops[h]? with
  | some o => match o.op, o.dst with
    | .move x, some d => match ρ σ.sl x with
      | some v => K' ⟨(d, v) :: σ.sl, σ.mem, σ.nx⟩
      | none => False
    | _, _ => False
  | none => False

theorem DrawA.hoist {ops : List Oper} {σ : S} {K : S → Prop} (h : Nat) (hB : hoistB N ops h = true) (hK : hoistK ops h σ fun σ' => DrawA P ti N (delOp h h ops) σ' K) : DrawA P ti N ops σ K := by
  unfold hoistB at hB
  unfold hoistK at hK
  cases ho : ops[h]? with
  | none => rw [ho] at hB; cases hB
  | some o =>
  rw [ho] at hB hK
  simp only [Bool.and_eq_true] at hB
  obtain ⟨⟨⟨⟨⟨b1, b2⟩, b3⟩, b4⟩, b5⟩, b6⟩ := hB
  simp only at hK
  split at hK
  · rename_i x d hop hd
    split at hK
    · rename_i v hv
      have hg : o.guard = none := by
        cases hq : o.guard with
        | none => rfl
        | some _ => rw [hq] at b2; cases b2
      have hdN : d < N := by rw [hd] at b3; simpa using b3
      have hhl : h < ops.length := (List.getElem?_eq_some_iff.1 ho).1
      have ho' : ops.toArray[h]? = some o := by simpa using ho
      have hall : ∀ (j : Nat) (o' : Oper), ops[j]? = some o' → noSD o'.op = true ∧ grdNe h o' = true := fun j o' hj => by
        have := List.all_eq_true.1 b5 o' (List.mem_of_getElem? hj)
        simpa using this
      refine ⟨fun κ g a w hst Q hQ hP => ?_⟩
      have hav := ρ_ok hst.sl hv
      have hst1 : St κ N g ⟨(d, v) :: σ.sl, σ.mem, σ.nx⟩ (a.put o.dst (a.eval x)) w := by
        rw [hd]
        exact hst.put hdN (.refl _ _) hst.inv hav (S.ok_cons hst.ok (Nat.le_refl _) (ρ_lt hst.ok hv) (S.ok_memAll hst.ok))
      have h1 := hK.run κ g _ w hst1 Q hQ hP
      have hdl := del_len (h := h) h ops hhl
      obtain ⟨m, hm⟩ : ∃ m, ops.length = m + 1 := ⟨ops.length - 1, by omega⟩
      have hdm : (delOp h h ops).length = m := by omega
      rw [hdm] at h1
      rw [hm]
      refine wpAnyIn_move ho' hop hg (fun j o' hj => ?_) hP m _ a w ?_ ?_ ?_
      · have := (hall j o' (by simpa using hj)).1
        refine ⟨fun cs b hq => ?_, fun c hq => ?_⟩ <;> rw [hq] at this <;> cases this
      · intro j oj hj hne hun hno
        have := Region.free_spec ho' b6 j oj hj hne (by rw [hm]; exact hun) hno
        exact this
      · refine mem_ready.2 ⟨by simp [Array.getD]; omega, o, ho', fun e he hb => ?_⟩
        have := List.all_eq_true.1 b4 e (by simpa using he)
        rw [hb] at this; cases this
      · refine any_del (h := h) (fun j o' hj i c hgc hih => ?_) m _ _ _ w ?_ ?_ ?_ h1
        · have := (hall j o' hj).2
          unfold grdNe at this
          rw [hgc] at this
          simp only [hih, Nat.beq_refl, Bool.not_true] at this
          cases this
        · intro i b
          rw [getD_set_ne b (Ne.symm (up_ne h i))]
          by_cases hi : i < m
          · have : up h i < m + 1 := by
              unfold up
              by_cases hih : i < h
              · rw [blt_tt hih, cond_true]; omega
              · rw [blt_ff hih, cond_false]; omega
            simp [Array.getD, hi, this]
          · have : ¬ up h i < m + 1 := by
              unfold up
              by_cases hih : i < h
              · rw [blt_tt hih, cond_true]; omega
              · rw [blt_ff hih, cond_false]; omega
            simp [Array.getD, hi, this]
        · exact getD_set_self true (by simp; omega)
        · exact getD_set_self false (by simp; omega)
    · exact hK.elim
  · exact hK.elim

/-- A drawn region with a move that may come anywhere. -/
theorem draw_hoist (hti : TiOK P ti) (hm : P.follows .mixedOrders = true) {id : Nat} {ops : List Oper} {σ : S} {K : S → Prop} (h : Nat) (hB : (hoistB N ops h && drawOK (delOp h h ops) (cut (delOp h h ops))) = true)
    (hK : hoistK ops h σ fun σ' => evPre P ti N (delOp h h ops) ((delOp h h ops).take (cut (delOp h h ops))) σ' fun σ' => evOps P ti N (delOp h h ops) ((delOp h h ops).drop (cut (delOp h h ops))) σ' K) : DrawS P ti N id ops σ K := by
  simp only [Bool.and_eq_true] at hB
  refine .of_A hm (.hoist h hB.1 ?_)
  unfold hoistK at hK ⊢
  split at hK
  · split at hK
    · split at hK
      · exact drawA_rule hti _ hB.2 hK
      · exact hK.elim
    · exact hK.elim
  · exact hK.elim
end
end Go.Sy

/- Drawn regions: every order, one by one, as a tree. Conditions: none. -/
namespace Go.Sy
set_option linter.unusedVariables false
set_option linter.unusedSimpArgs false
/-- Orders: what may come next, and what behind each. -/
inductive Tr where
  | nil
  | cons (i : Nat) (sub rest : Tr)
def Tr.isNil : Tr → Bool
  | .nil => true
  | _ => false
def Tr.heads : Tr → List Nat
  | .nil => []
  | .cons i _ r => i :: r.heads
def rdyB (ops : List Oper) (done : List Nat) (j : Nat) : Bool :=
  !memN j done && (match ops[j]? with | some o => o.after.toList.all (fun e => !Region.binds .any e || memN e.on done) | none => false)
def covB (ops : List Oper) (done hs : List Nat) : Bool := (List.range ops.length).all fun j => !rdyB ops done j || memN j hs
def trOK (ops : List Oper) : List Nat → Tr → Bool
  | _, .nil => true
  | done, .cons i sub rest => Nat.blt i ops.length && rdyB ops done i && covB ops (i :: done) sub.heads && trOK ops (i :: done) sub && trOK ops done rest
section
variable {P : Program} {ti : Nat → Option Ty} {N : Nat} {F : Fence} {n : Nat}
structure Br (A B : Prop) : Prop where
  l : A
  r : B
def evC (P : Program) (ti : Nat → Option Ty) (N : Nat) (ops : List Oper) (K : S → Prop) : Tr → S → Prop
  | .nil, _ => True
  | .cons i sub rest, σ => Br (match ops[i]? with
    | some o => evOps P ti N ops [o] σ fun σ' => bif sub.isNil then K σ' else evC P ti N ops K sub σ'
    | none => False) (evC P ti N ops K rest σ)
structure Dn (m : Nat) (listed : Array Bool) (done : List Nat) : Prop where
  size : listed.size = m
  mem : ∀ k, k < m → ∀ b, listed.getD k b = true ↔ k ∈ done
  nd : done.Nodup
  lt : ∀ k ∈ done, k < m
theorem nodup_len : ∀ (m : Nat) (l : List Nat), l.Nodup → (∀ k ∈ l, k < m) → l.length ≤ m
  | 0, [], _, _ => Nat.le_refl _
  | 0, k :: _, _, h => absurd (h k List.mem_cons_self) (Nat.not_lt_zero _)
  | m + 1, l, hn, h => by
    have h1 := nodup_len m (l.erase m) (hn.erase m) fun k hk => by
      have h2 := (hn.mem_erase_iff).1 hk
      have := h k h2.2
      omega
    by_cases hm : m ∈ l
    · rw [List.length_erase_of_mem hm] at h1; omega
    · rw [List.erase_of_not_mem hm] at h1; omega
theorem rdy_of {ops : List Oper} {listed : Array Bool} {done : List Nat} (hd : Dn ops.length listed done) {j : Nat} (hj : j ∈ Region.ready .any ops.toArray listed) : rdyB ops done j = true ∧ j < ops.length ∧ j ∉ done := by
  obtain ⟨k1, o, k2, k3⟩ := mem_ready.1 hj
  have k2' : ops[j]? = some o := by simpa using k2
  have hjl := (List.getElem?_eq_some_iff.1 k2').1
  have hjd : j ∉ done := fun h => by
    have := (hd.mem j hjl true).2 h
    rw [this] at k1; cases k1
  refine ⟨?_, hjl, hjd⟩
  unfold rdyB
  rw [k2']
  have hm : memN j done = false := by
    cases hq : memN j done with
    | false => rfl
    | true => exact absurd (memN_iff.1 hq) hjd
  rw [hm]
  simp only [Bool.not_false, Bool.true_and, List.all_eq_true, Bool.or_eq_true, Bool.not_eq_true']
  intro e he
  cases hb : Region.binds .any e with
  | false => exact .inl rfl
  | true =>
    right
    have hl := k3 e (by simpa using he) hb
    by_cases hel : e.on < ops.length
    · exact memN_iff.2 ((hd.mem _ hel false).1 hl)
    · simp [Array.getD, hd.size, hel] at hl
theorem of_rdy {ops : List Oper} {listed : Array Bool} {done : List Nat} (hd : Dn ops.length listed done) {j : Nat} (hj : j < ops.length) (h : rdyB ops done j = true) : j ∈ Region.ready .any ops.toArray listed := by
  unfold rdyB at h
  simp only [Bool.and_eq_true, Bool.not_eq_true'] at h
  obtain ⟨h1, h2⟩ := h
  have hjd : j ∉ done := fun hh => by rw [memN_iff.2 hh] at h1; cases h1
  have hjo : ops[j]? = some ops[j] := List.getElem?_eq_getElem hj
  rw [hjo] at h2
  refine mem_ready.2 ⟨?_, ops[j], by simpa using hjo, fun e he hb => ?_⟩
  · cases hq : listed.getD j true with
    | false => rfl
    | true => exact absurd ((hd.mem j hj true).1 hq) hjd
  · have := List.all_eq_true.1 h2 e (by simpa using he)
    rw [hb] at this
    simp only [Bool.not_true, Bool.false_or] at this
    have hm := memN_iff.1 this
    exact (hd.mem _ (hd.lt _ hm) false).2 hm
theorem any_tree (hti : TiOK P ti) {ops : List Oper} {K : S → Prop} {Q : Exit → Act → World → Prop} {κ : Ctx} (hQ : ∀ g' σ' a' w', K σ' → St κ N g' σ' a' w' → Q .normal a' w') :
    ∀ (T : Tr) (all : Tr) (done : List Nat), trOK ops done T = true → (∀ (i : Nat) (sub : Tr), True) →
      (∀ fuel listed σ g a w, Dn ops.length listed done → fuel + done.length = ops.length → evC P ti N ops K T σ → St κ N g σ a w → ∀ i ∈ T.heads, ∃ fuel', fuel = fuel' + 1 ∧ wpOpIn (wd κ.rd) 0 P ops.toArray Q i (wpAnyIn (wd κ.rd) 0 P .any ops.toArray Q fuel' (listed.setIfInBounds i true)) a w) := by
  intro T
  induction T with
  | nil => intro _ done _ _ fuel listed σ g a w _ _ _ _ i hi; cases hi
  | cons i sub rest ihs ihr =>
    intro all done hok _ fuel listed σ g a w hd hf hev hst j hj
    simp only [trOK, Bool.and_eq_true, Nat.blt_eq] at hok
    obtain ⟨⟨⟨⟨b1, b2⟩, b3⟩, b4⟩, b5⟩ := hok
    obtain ⟨he, hr⟩ := hev
    by_cases hji : j = i
    · subst hji
      have hid : j ∉ done := fun h => by unfold rdyB at b2; rw [memN_iff.2 h] at b2; simp at b2
      have hnd : (j :: done).Nodup := List.nodup_cons.2 ⟨hid, hd.nd⟩
      have hltd : ∀ k ∈ j :: done, k < ops.length := fun k hk => by
        rcases List.mem_cons.1 hk with rfl | hk
        · exact b1
        · exact hd.lt k hk
      have hlen := nodup_len ops.length (j :: done) hnd hltd
      simp only [List.length_cons] at hlen
      obtain ⟨fuel', rfl⟩ : ∃ f, fuel = f + 1 := ⟨fuel - 1, by omega⟩
      refine ⟨fuel', rfl, ?_⟩
      have hio : ops[j]? = some ops[j] := List.getElem?_eq_getElem b1
      rw [hio] at he
      simp only at he
      refine evOps_step hti hio he hst fun g' σ' a' w' hK hst' => ?_
      have hd' : Dn ops.length (listed.setIfInBounds j true) (j :: done) := by
        refine ⟨by simp [hd.size], fun k hk b => ?_, hnd, hltd⟩
        by_cases hjk : j = k
        · subst hjk
          rw [getD_set_self b (by rw [hd.size]; exact hk)]; simp
        · rw [getD_set_ne b hjk, hd.mem k hk b, List.mem_cons]
          exact ⟨.inr, fun h => h.resolve_left (Ne.symm hjk)⟩
      have hcov : ∀ k, k ∈ Region.ready .any ops.toArray (listed.setIfInBounds j true) → k ∈ sub.heads := fun k hk => by
        obtain ⟨r1, r2, _⟩ := rdy_of hd' hk
        have := List.all_eq_true.1 b3 k (List.mem_range.2 r2)
        rw [r1] at this
        simp only [Bool.not_true, Bool.false_or] at this
        exact memN_iff.1 this
      have hK' : (bif sub.isNil then K σ' else evC P ti N ops K sub σ') := hK
      cases hsub : sub with
      | nil =>
        rw [hsub] at hK' hcov
        refine wpAnyIn_done ?_ (hQ _ _ _ _ hK' hst') fuel'
        rw [List.eq_nil_iff_forall_not_mem]
        intro k hk
        have := hcov k hk
        cases this
      | cons i' s' r' =>
        rw [hsub] at hK'
        have hs := ihs sub (j :: done) b4 (fun _ _ => trivial) fuel' _ σ' g' a' w' hd' (by simp only [List.length_cons]; omega) (by rw [hsub]; exact hK') hst'
        obtain ⟨f2, rfl, _⟩ := hs i' (by rw [hsub]; exact List.mem_cons_self)
        refine ⟨fun h0 => ?_, fun k hk => ?_⟩
        · exfalso
          rw [hsub] at b4
          simp only [trOK, Bool.and_eq_true, Nat.blt_eq] at b4
          have := of_rdy hd' b4.1.1.1.1 b4.1.1.1.2
          rw [h0] at this; cases this
        · obtain ⟨f3, e3, h3⟩ := hs k (hcov k hk)
          obtain rfl : f2 = f3 := by omega
          exact h3
    · rcases List.mem_cons.1 hj with rfl | hj
      · exact absurd rfl hji
      · exact ihr all done b5 (fun _ _ => trivial) fuel listed σ g a w hd hf hr hst j hj
/-- **Every order of a drawn region, as a tree.** -/
theorem DrawA.tree (hti : TiOK P ti) {ops : List Oper} {σ : S} {K : S → Prop} (T : Tr) (hB : (covB ops [] T.heads && trOK ops [] T && !T.isNil) = true) (h : evC P ti N ops K T σ) : DrawA P ti N ops σ K := by
  simp only [Bool.and_eq_true, Bool.not_eq_true'] at hB
  obtain ⟨⟨b1, b2⟩, b3⟩ := hB
  refine ⟨fun κ g a w hst Q hQ _ => ?_⟩
  have hd : Dn ops.length (Array.replicate ops.length false) [] := ⟨by simp, fun k hk b => by simp [Array.getD, hk], List.nodup_nil, fun k hk => by cases hk⟩
  have hs := any_tree (N := N) hti hQ T T [] b2 (fun _ _ => trivial) ops.length _ σ g a w hd (by simp) h hst
  cases T with
  | nil => cases b3
  | cons i' s' r' =>
    obtain ⟨f, hf, _⟩ := hs i' List.mem_cons_self
    rw [hf] at hs ⊢
    refine ⟨fun h0 => ?_, fun k hk => ?_⟩
    · exfalso
      simp only [trOK, Bool.and_eq_true, Nat.blt_eq] at b2
      have := of_rdy hd b2.1.1.1.1 b2.1.1.1.2
      rw [hf] at this
      rw [h0] at this; cases this
    · have hcov : k ∈ (Tr.cons i' s' r').heads := by
        rw [← hf] at hk
        obtain ⟨r1, r2, _⟩ := rdy_of hd hk
        have := List.all_eq_true.1 b1 k (List.mem_range.2 r2)
        rw [r1] at this
        simp only [Bool.not_true, Bool.false_or] at this
        exact memN_iff.1 this
      obtain ⟨f3, e3, h3⟩ := hs k hcov
      obtain rfl : f = f3 := by omega
      exact h3
theorem draw_tree (hti : TiOK P ti) (hm : P.follows .mixedOrders = true) {id : Nat} {ops : List Oper} {σ : S} {K : S → Prop} (T : Tr) (hB : (covB ops [] T.heads && trOK ops [] T && !T.isNil) = true) (h : evC P ti N ops K T σ) : DrawS P ti N id ops σ K := .of_A hm (.tree hti T hB h)
/-- Two moves taken first, then every order. -/
theorem draw_hoist2_tree (hti : TiOK P ti) (hm : P.follows .mixedOrders = true) {id : Nat} {ops : List Oper} {σ : S} {K : S → Prop} (h1 h2 : Nat) (T : Tr)
    (hB : (hoistB N ops h1 && hoistB N (delOp h1 h1 ops) h2 && (covB (delOp h2 h2 (delOp h1 h1 ops)) [] T.heads && trOK (delOp h2 h2 (delOp h1 h1 ops)) [] T && !T.isNil)) = true)
    (h : hoistK ops h1 σ fun σ' => hoistK (delOp h1 h1 ops) h2 σ' fun σ' => evC P ti N (delOp h2 h2 (delOp h1 h1 ops)) K T σ') : DrawS P ti N id ops σ K := by
  simp only [Bool.and_eq_true] at hB
  refine .of_A hm (.hoist h1 hB.1.1 ?_)
  have mono : ∀ {ops : List Oper} {h : Nat} {σ : S} {A B : S → Prop}, (∀ σ, A σ → B σ) → hoistK ops h σ A → hoistK ops h σ B := fun {ops h σ A B} hab hk => by
    unfold hoistK at hk ⊢
    split at hk
    · split at hk
      · split at hk
        · exact hab _ hk
        · exact hk.elim
      · exact hk.elim
    · exact hk.elim
  refine mono (fun σ' hk => .hoist h2 hB.1.2 ?_) h
  exact mono (fun σ'' hk => .tree hti T (by simp only [Bool.and_eq_true]; exact hB.2) hk) hk
def hTree (P : Program) (ti : Nat → Option Ty) (N : Nat) (K : S → Prop) (T : Tr) : List Nat → List Oper → S → Prop
  | [], ops, σ => evC P ti N ops K T σ
  | h :: hs, ops, σ => hoistK ops h σ fun σ' => hTree P ti N K T hs (delOp h h ops) σ'
def hTreeB (N : Nat) (T : Tr) : List Nat → List Oper → Bool
  | [], ops => covB ops [] T.heads && trOK ops [] T && !T.isNil
  | h :: hs, ops => hoistB N ops h && hTreeB N T hs (delOp h h ops)
theorem hoistK.mono {ops : List Oper} {h : Nat} {σ : S} {A B : S → Prop} (hab : ∀ σ, A σ → B σ) (hk : hoistK ops h σ A) : hoistK ops h σ B := by
  unfold hoistK at hk ⊢
  split at hk
  · split at hk
    · split at hk
      · exact hab _ hk
      · exact hk.elim
    · exact hk.elim
  · exact hk.elim
theorem DrawA.hTree (hti : TiOK P ti) {K : S → Prop} {T : Tr} : ∀ (hs : List Nat) (ops : List Oper) (σ : S), hTreeB N T hs ops = true → Sy.hTree P ti N K T hs ops σ → DrawA P ti N ops σ K
  | [], ops, σ, hB, h => .tree hti T hB h
  | k :: hs, ops, σ, hB, h => by
    simp only [hTreeB, Bool.and_eq_true] at hB
    exact .hoist k hB.1 (h.mono fun σ' hk => DrawA.hTree hti hs _ σ' hB.2 hk)
theorem draw_htree (hti : TiOK P ti) (hm : P.follows .mixedOrders = true) {id : Nat} {ops : List Oper} {σ : S} {K : S → Prop} (hs : List Nat) (T : Tr) (hB : hTreeB N T hs ops = true) (h : hTree P ti N K T hs ops σ) : DrawS P ti N id ops σ K := .of_A hm (.hTree hti hs ops σ hB h)
end
end Go.Sy

/- Two vectors lie apart: slices.overlaps says no. Conditions: none. -/
namespace Go.Sy
set_option linter.unusedVariables false
set_option linter.unusedSimpArgs false
section
variable {P : Program} {ti : Nat → Option Ty} {N : Nat}
theorem CallI.overlaps {f tS tR e size : Nat} {o : Oper} {σ : S} {sz sz2 m n i j la lb t t2 : Nat} {es es2 : List (List D)} {fl fl2 : Bool} {l : List AV} {K : S → Prop}
    (hf : ∀ (u v r : Value) (w w' : World), (Extern.SlicesOverlaps.overlaps #[tS, tS] #[tR] #[u, v]).run P w = .ok r w' → (callFunc f #[u, v]).run P w = .ok (.value r) w')
    (hS : P.underlying tS = some (.slice e)) (hz : ∀ w, (Go.sizeOf e).run P w = .ok size w) (hl1 : l = [.vx sz m i la, .vx sz2 n j lb]) (hm : look m σ.mem = some (.vec t sz es fl)) (hn : look n σ.mem = some (.vec t2 sz2 es2 fl2)) (hne : m ≠ n) (h0 : 0 < sz ∧ 0 < sz2) (hpos : 0 < la ∧ 0 < lb)
    (h : K (σ.put o.dst (.d (.bl false)))) : CallI P N o σ f l K := by
  subst hl1
  refine ⟨fun ⟨⟨x, xs, ats, first, cap, l', hop, hx, hl, hll⟩, hd⟩ κ g a w hst next Q hnx => ?_⟩
  obtain ⟨vs, ws, hev, hsz, hav⟩ := call_vals hst hx hl
  rw [← hll] at hsz
  have hav0 := hav 0 (by rw [← hll]; simp)
  have hav1 := hav 1 (by rw [← hll]; simp)
  obtain ⟨u, v, hu⟩ : ∃ u v, vs ++ xs.map a.eval ++ ws = #[u, v] := by
    generalize vs ++ xs.map a.eval ++ ws = z at hsz
    obtain ⟨l⟩ := z
    match l, hsz with
    | [u, v], _ => exact ⟨u, v, rfl⟩
  have hu0 : AVR g (.vx sz m i la) u := by
    have e : (first ++ l' ++ cap)[0]'(by rw [← hll]; simp) = .vx sz m i la := by simp only [← hll]; rfl
    rw [e, hu] at hav0
    exact hav0
  have hv0 : AVR g (.vx sz2 n j lb) v := by
    have e : (first ++ l' ++ cap)[1]'(by rw [← hll]; simp) = .vx sz2 n j lb := by simp only [← hll]; rfl
    rw [e, hu] at hav1
    exact hav1
  have hvm : VecOK g w m t sz es fl := hst.inv.obs m _ hm
  have hvn : VecOK g w n t2 sz2 es2 fl2 := hst.inv.obs n _ hn
  cases hu0 with | vx _ _ _ _ ad c hc had => ?_
  cases hv0 with | vx _ _ _ _ bd' c' hc' hbd => ?_
  obtain ⟨hh, rfl, hcp⟩ := had.pos (by omega)
  obtain ⟨hh', rfl, hcp'⟩ := hbd.pos (by omega)
  obtain ⟨arr, e1, e2, _⟩ := hvm.2.2 hh
  obtain ⟨arr', e1', e2', _⟩ := hvn.2.2 hh'
  have hblk : g.blk m ≠ g.blk n := hst.inv.inj m n hne (by unfold On; rw [hm]; exact hh) (by unfold On; rw [hn]; exact hh')
  have hpos2 : 0 < (j + c') * sz2 := Nat.mul_pos (by omega) h0.2
  have hrun := Lib.run_overlaps_apart (P := P) w tS tR e hS size hz ⟨g.blk m, g.hi m + i * sz, none⟩ ⟨g.blk n, g.hi n + j * sz2, none⟩ la c lb c' hblk t t2 arr.size arr'.size (by simp [World.shape?, e1]) (by simp [World.shape?, e1']) (by omega) (by simp [World.frozen?, e1]) (by simp [World.frozen?, e1])
  have hexec : (execOp a.eval o).run P w = .ok (.value (.bool false)) w := by
    simp only [execOp, hop, resolve, hev, Deferred.ofValue, pure_bind, invoke, hu]
    exact hf _ _ _ _ _ hrun
  refine wp_value hexec (hnx g _ _ _ h ?_)
  cases hdst : o.dst with
  | none => exact hst
  | some d => exact hst.put (hd d hdst) (.refl _ _) hst.inv (.d _ _ (.bl _)) (S.ok_cons hst.ok (Nat.le_refl _) rfl (S.ok_memAll hst.ok))
end
end Go.Sy

/- States said weaker: what is open or mutable becomes what it shows. Loops with it. Conditions: none. -/
namespace Go.Sy
set_option linter.unusedVariables false
set_option linter.unusedSimpArgs false

theorem vec_freeze {g : Gh} {w : World} {n t sz : Nat} {es : List (List D)} {fl : Bool} (hv : VecOK g w n t sz es fl) (hfrz : ∀ b o v, g.F b o = some v → w.cell? ⟨b, o, none⟩ = some v) :
    ∃ F' : Nat → Nat → Option Value, (∀ b o x, g.F b o = some x → F' b o = some x) ∧ (∀ b o x, F' b o = some x → g.F b o = some x ∨ (b = g.blk n ∧ g.has n = true)) ∧ (∀ b o x, F' b o = some x → w.cell? ⟨b, o, none⟩ = some x) ∧
      (∀ b o, g.F b o = none → (g.has n = true → b ≠ g.blk n) → F' b o = none) ∧ ∀ i len u, i + len ≤ es.length → AVR g (.vx sz n i len) u → DR F' (.fs sz ((es.drop i).take len)) u := by
  obtain ⟨v1, v2, v3⟩ := hv
  cases hh : g.has n with
  | false =>
    have he := v2 hh
    subst he
    refine ⟨g.F, fun _ _ _ h => h, fun _ _ _ h => .inl h, hfrz, fun _ _ h _ => h, fun i len u hle hu => ?_⟩
    cases hu with | vx _ _ _ _ ad c hc had => ?_
    simp at hle
    obtain ⟨rfl, rfl⟩ : i = 0 ∧ len = 0 := by omega
    exact .fs0 _ _ _
  | true =>
    obtain ⟨arr, e1, e2, e3, e4, e5, _, _⟩ := v3 hh
    refine ⟨frzF g n arr.size arr, fun b o x hx => ?_, fun b o x hx => ?_, fun b o x hx => ?_, fun b o hx hb => ?_, fun i len u hle hu => ?_⟩
    · unfold frzF
      by_cases hb : b = g.blk n
      · subst hb; rw [e5] at hx; cases hx
      · rw [if_neg hb]; exact hx
    · unfold frzF at hx
      by_cases hb : b = g.blk n
      · exact .inr ⟨hb, rfl⟩
      · rw [if_neg hb] at hx; exact .inl hx
    · unfold frzF at hx
      by_cases hb : b = g.blk n
      · subst hb
        rw [if_pos rfl] at hx
        by_cases ho : o < arr.size
        · rw [if_pos ho] at hx
          obtain rfl := Option.some.inj hx
          simp [World.cell?, e1, Array.getD, ho]
        · rw [if_neg ho] at hx; cases hx
      · rw [if_neg hb] at hx; exact hfrz b o x hx
    · unfold frzF; rw [if_neg (hb rfl)]; exact hx
    · cases hu with | vx _ _ _ _ ad c hc had => ?_
      have hlen : ((es.drop i).take len).length = len := by simp; omega
      by_cases h0 : len = 0
      · subst h0; rw [List.take_zero]; exact .fs0 _ _ _
      · obtain ⟨_, rfl, hcp⟩ := had.pos (by omega)
        have hbd : (i + len) * sz ≤ g.cp n := Nat.le_trans (Nat.mul_le_mul_right _ hle) e3
        rw [Nat.add_mul] at hbd
        refine .fs _ _ _ _ _ _ (fun i' j => arr.getD (g.hi n + i * sz + i' * sz + j) undef) hlen hc (fun i' hi' => v1 _ (List.mem_of_mem_drop (List.mem_of_mem_take (List.getElem_mem hi')))) (fun i' j hi' hj => ?_) fun i' hi' j hj => ?_
        · have hm1 : i' * sz + sz ≤ len * sz := by
            have : (i' + 1) * sz ≤ len * sz := Nat.mul_le_mul_right _ (by omega)
            rw [Nat.add_mul] at this; omega
          show frzF g n arr.size arr (g.blk n) (g.hi n + i * sz + i' * sz + j) = _
          unfold frzF
          rw [if_pos rfl, if_pos (by omega)]
        · have hk' : i + i' < es.length := by omega
          have hke : ((es.drop i).take len)[i'] = es[i + i'] := by simp
          have hj' : j < es[i + i'].length := by rw [← hke]; exact hj
          have := e4 (i + i') hk' j hj'
          rw [Nat.add_mul] at this
          rw [show g.hi n + i * sz + i' * sz + j = g.hi n + (i * sz + i' * sz) + j by omega]
          simp only [hke]
          refine this.mono fun b o x hx => ?_
          unfold frzF
          by_cases hb : b = g.blk n
          · subst hb; rw [e5] at hx; cases hx
          · rw [if_neg hb]; exact hx

/-- A value said weaker; a vector n's part as what it shows. -/
inductive Fz (sz n : Nat) (es : List (List D)) : AV → AV → Prop
  | same (u : AV) : Fz sz n es u u
  | vx (i len : Nat) (l : List (List D)) (h : i + len ≤ es.length) (hl : l = (es.drop i).take len) : Fz sz n es (.vx sz n i len) (.d (.fs sz l))
  | ts (k : Nat) (l : List (List D)) (m : Nat) : Fz sz n es (.ts k l m) (.d (.fs k l))
  | tg (k : Nat) (l : List (List D)) : Fz sz n es (.tg k l) (.d (.fs k l))
  | nl (k : Nat) : Fz sz n es (.nl k) (.d (.fs k []))

/-- An object said weaker. -/
inductive FzO (sz n : Nat) (es : List (List D)) : Ob → Ob → Prop
  | same (o : Ob) : FzO sz n es o o
  | cell (u v : AV) (h : Fz sz n es u v) (hs : v.sc = true) : FzO sz n es (.cells 1 [u]) (.cells 1 [v])

theorem Fz.avr {sz n m : Nat} {es : List (List D)} {u v : AV} {x : Value} {g : Gh} {F' : Nat → Nat → Option Value} (h : Fz sz n es u v) (hF : ∀ b o x, g.F b o = some x → F' b o = some x) (hv : ∀ i len u, i + len ≤ es.length → AVR g (.vx sz n i len) u → DR F' (.fs sz ((es.drop i).take len)) u) (hlt : u.lt m = true) (hx : AVR g u x) : AVR { g with F := F' } v x := by
  cases h with
  | same => exact AVR.ext (m := m) (g := g) (g' := { g with F := F' }) ⟨hF, fun _ _ => rfl, fun _ _ => rfl, fun _ _ => rfl, fun _ _ => rfl⟩ hlt hx
  | vx i len l h hl => subst hl; exact .d _ _ (hv i len x h hx)
  | ts k l m' =>
    cases hx with
    | ts0 _ _ _ _ _ _ hd => exact .d _ _ (hd.mono hF)
    | ts _ _ _ _ _ _ _ _ hd => exact .d _ _ (hd.mono hF)
  | tg k l => cases hx with | tg _ _ _ _ _ hd => exact .d _ _ (hd.mono hF)
  | nl k => cases hx; exact .d _ _ (.fs0 _ _ _)

section
variable {P : Program} {ti : Nat → Option Ty} {N : Nat}

structure Wk (N : Nat) (σ τ : S) : Prop where
  run : ∀ (κ : Ctx) (g : Gh) (a : Act) (w : World), St κ N g σ a w → ∃ g', St κ N g' τ a w

theorem Wk.en {σ τ : S} (h : En σ τ) : Wk N σ τ := ⟨fun κ g a w hst => ⟨g, h.st hst⟩⟩

/-- A vector is given up: what shows it is frozen. -/
theorem Wk.frz {σ τ : S} {n t sz : Nat} {es : List (List D)} {fl : Bool} (hm : look n σ.mem = some (.vec t sz es fl)) (hs : ∀ k v, look k τ.sl = some v → ∃ u, look k σ.sl = some u ∧ Fz sz n es u v)
    (hmem : ∀ k ob, look k τ.mem = some ob → k ≠ n ∧ ∃ ob', look k σ.mem = some ob' ∧ FzO sz n es ob' ob) (hok : τ.ok = true) : Wk N σ τ := by
  refine ⟨fun κ g a w hst => ?_⟩
  obtain ⟨F', f1, f2, f3, f4, f5⟩ := vec_freeze (hst.inv.obs n _ hm) hst.inv.frz
  have hE : ∀ M, Ext M g { g with F := F' } := fun M => ⟨f1, fun _ _ => rfl, fun _ _ => rfl, fun _ _ => rfl, fun _ _ => rfl⟩
  have hn : g.has n = true → On g σ.mem n := fun h => by unfold On; rw [hm]; exact h
  have on : ∀ k, On { g with F := F' } τ.mem k → k ≠ n ∧ On g σ.mem k := fun k h => by
    unfold On at h ⊢
    cases hl : look k τ.mem with
    | none => rw [hl] at h; exact h.elim
    | some ob =>
      rw [hl] at h
      obtain ⟨h1, ob', h2, h3⟩ := hmem k ob hl
      refine ⟨h1, ?_⟩
      rw [h2]
      cases h3 with
      | same => exact h
      | cell => trivial
  have hF : ∀ k, On { g with F := F' } τ.mem k → ∀ o, g.F (g.blk k) o = none → F' (g.blk k) o = none := fun k h o hx => by
    obtain ⟨h1, h2⟩ := on k h
    exact f4 _ _ hx fun hh => hst.inv.inj k n h1 h2 (hn hh)
  refine ⟨{ g with F := F' }, hst.size, hst.defers, fun k v hk => ?_, ⟨f3, fun k ob hk => ?_, fun k m hkm h h' => hst.inv.inj k m hkm (on k h).2 (on m h').2, hst.inv.size, hst.inv.pres, fun k h => hst.inv.own k (on k h).2, fun b o v h => f1 _ _ _ (hst.inv.f0 b o v h), fun b o v h => ?_, hst.inv.os, hst.inv.tape, hst.inv.output, hst.inv.dfr⟩, hok⟩
  · obtain ⟨u, hu, hz⟩ := hs k v hk
    exact hz.avr f1 f5 (S.ok_sl hst.ok hu) (hst.sl k u hu)
  · obtain ⟨hkn, ob', hob', hz⟩ := hmem k ob hk
    have hob := hst.inv.obs k ob' hob'
    have hlt := (S.ok_mem hst.ok hob').2
    cases hz with
    | same =>
      cases ob with
      | cells size c =>
        obtain ⟨arr, T, e1, e2, e3, e4, e5, e6⟩ := hob
        simp only [Ob.lt, List.all_eq_true] at hlt
        exact ⟨arr, T, e1, e2, e3, e4, fun j hj => (e5 j hj).ext1 (hE σ.nx) (hlt _ (List.getElem_mem hj)), fun o => hF k (by unfold On; rw [hk]; trivial) o (e6 o)⟩
      | tail t b =>
        refine ⟨fun hh => ?_, hob.2⟩
        obtain ⟨arr, u, e1, e2, e3, e4⟩ := hob.1 hh
        exact ⟨arr, u, e1, e2, e3, fun o ho => hF k (by unfold On; rw [hk]; exact hh) o (e4 o ho)⟩
      | vec t' sz' es' f' => exact VecOK.mono hob f1 rfl rfl rfl rfl (fun _ => rfl) (fun hh o ho => hF k (by unfold On; rw [hk]; exact hh) o ho)
      | tag m t' => exact hob
      | frame sz' l =>
        simp only [Ob.lt, List.all_eq_true] at hlt
        exact ⟨hob.1, fun s v hs => (hob.2 s v hs).ext (hE σ.nx) (hlt _ (look_mem hs))⟩
      | loop k' ps asg body st pd => exact hob
    | cell u v h hsc =>
      obtain ⟨arr, T, e1, e2, e3, e4, e5, e6⟩ := hob
      have h5 := e5 0 (by simp)
      simp only [Ob.lt, List.all_cons, List.all_nil, Bool.and_true] at hlt
      have hlt' : u.lt σ.nx = true := by
        cases u <;> first | exact hlt | (simp only [AV.lt1, AV.lt0] at hlt; cases hlt)
      refine ⟨arr, T, e1, e2, rfl, fun j hj => ?_, fun j hj => ?_, fun o => hF k (by unfold On; rw [hk]; trivial) o (e6 o)⟩
      · obtain rfl : j = 0 := by simp at hj; omega
        exact hsc
      · obtain rfl : j = 0 := by simp at hj; omega
        exact h.avr f1 f5 hlt' h5
  · rcases f2 b o v h with h | ⟨rfl, hh⟩
    · exact hst.inv.fnew b o v h
    · exact .inr (hst.inv.own n (hn hh))

/-- The same without a vector. -/
theorem Wk.vw {σ τ : S} (hs : ∀ k v, look k τ.sl = some v → ∃ u, look k σ.sl = some u ∧ Fz 0 0 [] u v ∧ ∀ i len l, u = .vx 0 0 i len → v ≠ .d (.fs 0 l)) (hmem : ∀ k ob, look k τ.mem = some ob → ∃ ob', look k σ.mem = some ob' ∧ FzO 0 0 [] ob' ob ∧ ∀ i len l, ob' = .cells 1 [.vx 0 0 i len] → ob ≠ .cells 1 [.d (.fs 0 l)]) (hok : τ.ok = true) : Wk N σ τ := by
  refine ⟨fun κ g a w hst => ?_⟩
  have hav : ∀ (u v : AV) (x : Value), Fz 0 0 [] u v → (∀ i len l, u = .vx 0 0 i len → v ≠ .d (.fs 0 l)) → AVR g u x → AVR g v x := fun u v x h hno hx => by
    cases h with
    | same => exact hx
    | vx i len l => exact absurd rfl (hno i len l rfl)
    | ts k l m' =>
      cases hx with
      | ts0 _ _ _ _ _ _ hd => exact .d _ _ hd
      | ts _ _ _ _ _ _ _ _ hd => exact .d _ _ hd
    | tg k l => cases hx with | tg _ _ _ _ _ hd => exact .d _ _ hd
    | nl k => cases hx; exact .d _ _ (.fs0 _ _ _)
  have on : ∀ k, On g τ.mem k → On g σ.mem k := fun k h => by
    unfold On at h ⊢
    cases hl : look k τ.mem with
    | none => rw [hl] at h; exact h.elim
    | some ob =>
      rw [hl] at h
      obtain ⟨ob', h2, h3, _⟩ := hmem k ob hl
      rw [h2]
      cases h3 with
      | same => exact h
      | cell => trivial
  refine ⟨g, hst.size, hst.defers, fun k v hk => ?_, ⟨hst.inv.frz, fun k ob hk => ?_, fun k m hkm h h' => hst.inv.inj k m hkm (on k h) (on m h'), hst.inv.size, hst.inv.pres, fun k h => hst.inv.own k (on k h), hst.inv.f0, hst.inv.fnew, hst.inv.os, hst.inv.tape, hst.inv.output, hst.inv.dfr⟩, hok⟩
  · obtain ⟨u, hu, hz, hno⟩ := hs k v hk
    exact hav u v _ hz hno (hst.sl k u hu)
  · obtain ⟨ob', hob', hz, hno⟩ := hmem k ob hk
    have hob := hst.inv.obs k ob' hob'
    cases hz with
    | same => exact hob
    | cell u v h hsc =>
      obtain ⟨arr, T, e1, e2, e3, e4, e5, e6⟩ := hob
      have h5 := e5 0 (by simp)
      refine ⟨arr, T, e1, e2, rfl, fun j hj => ?_, fun j hj => ?_, e6⟩
      · obtain rfl : j = 0 := by simp at hj; omega
        exact hsc
      · obtain rfl : j = 0 := by simp at hj; omega
        exact hav u v _ h (fun i len l hu hv => hno i len l (by rw [hu]) (by rw [hv])) h5

theorem Wk.trans {σ τ υ : S} (h : Wk N σ τ) (h' : Wk N τ υ) : Wk N σ υ := ⟨fun κ g a w hst => by
  obtain ⟨g', h1⟩ := h.run κ g a w hst
  exact h'.run κ g' a w h1⟩

/-- A round's end, said weaker. -/
def RoundW (N : Nat) {α : Type} (I : α → Prop) (A : α → S) (μ : α → Nat) (Q : Exit → S → Prop) (x : α) : Exit → S → Prop
  | .normal, σ => ∃ y, I y ∧ μ y < μ x ∧ Wk N σ (A y)
  | e, σ => Q e σ

theorem loop_ruleW {α : Type} {body : Code} {Q : Exit → S → Prop} {σ : S} (hti : TiOK P ti) (I : α → Prop) (A : α → S) (μ : α → Nat) (x : α) (hx : I x) (h0 : Wk N σ (A x)) (step : ∀ x, I x → vc P ti N body (RoundW N I A μ Q x) (A x)) : LoopS P N body Q σ := by
  refine ⟨fun κ g a w hr hst => wpIn_loop_rounds (μ x + 1) ?_⟩
  have key : ∀ n x (κ : Ctx) g a w, (κ.rd = none ∨ noRange body = true) → μ x < n → I x → St κ N g (A x) a w → Code.roundsIn (wd κ.rd) 0 P body (Post κ N Q) n a w := by
    intro n
    induction n with
    | zero => intro x κ g a w _ h; omega
    | succ n ih =>
      intro x κ g a w hr hlt hI hst
      rw [roundsIn_succ]
      refine wpIn_mono (vc_sound hti body _ _ (step x hI) κ g a w hr hst) fun e a' w' ⟨l, g', σ', hl, hq, hst'⟩ => ?_
      cases e with
      | normal =>
        obtain ⟨y, hy, hmu, hen⟩ := hq
        obtain ⟨g2, hst2⟩ := hen.run _ _ _ _ hst'
        exact roundsIn_mono (fun e a w hp => hp.app hl) n a' w' (ih y (κ.add l) g2 a' w' hr (by omega) hy hst2)
      | _ => exact ⟨l, g', σ', hl, hq, hst'⟩
  obtain ⟨g2, hst2⟩ := h0.run κ g a w hst
  exact key _ x κ g2 a w hr (by omega) hx hst2
end
end Go.Sy

/- States said weaker, slot by slot. Conditions: none. -/
namespace Go.Sy
def fzAt (sz n : Nat) (es : List (List D)) (l : List (Nat × AV)) (k : Nat) (v : AV) : Prop :=
  match look k l with
  | some u => Fz sz n es u v
  | none => False
def FzL (sz n : Nat) (es : List (List D)) (l : List (Nat × AV)) : List (Nat × AV) → Prop
  | [] => True
  | (k, v) :: t => fzAt sz n es l k v ∧ FzL sz n es l t
def fzoAt (sz n : Nat) (es : List (List D)) (l : List (Nat × Ob)) (k : Nat) (v : Ob) : Prop :=
  match look k l with
  | some u => FzO sz n es u v
  | none => False
def FzM (sz n : Nat) (es : List (List D)) (l : List (Nat × Ob)) : List (Nat × Ob) → Prop
  | [] => True
  | (k, v) :: t => Nat.beq k n = false ∧ fzoAt sz n es l k v ∧ FzM sz n es l t
theorem FzL.look {sz n : Nat} {es : List (List D)} {l m : List (Nat × AV)} (h : FzL sz n es l m) {k : Nat} {v : AV} (hk : look k m = some v) : ∃ u, look k l = some u ∧ Fz sz n es u v := by
  have hm := look_mem hk
  clear hk
  induction m with
  | nil => cases hm
  | cons p t ih =>
    obtain ⟨k', v'⟩ := p
    rcases List.mem_cons.1 hm with h' | h'
    · cases h'
      have := h.1
      unfold fzAt at this
      cases hu : Sy.look k l with
      | none => rw [hu] at this; exact this.elim
      | some u => rw [hu] at this; exact ⟨u, rfl, this⟩
    · exact ih h.2 h'
theorem FzM.look {sz n : Nat} {es : List (List D)} {l m : List (Nat × Ob)} (h : FzM sz n es l m) {k : Nat} {v : Ob} (hk : look k m = some v) : k ≠ n ∧ ∃ u, look k l = some u ∧ FzO sz n es u v := by
  have hm := look_mem hk
  clear hk
  induction m with
  | nil => cases hm
  | cons p t ih =>
    obtain ⟨k', v'⟩ := p
    rcases List.mem_cons.1 hm with h' | h'
    · cases h'
      refine ⟨Nat.ne_of_beq_eq_false h.1, ?_⟩
      have := h.2.1
      unfold fzoAt at this
      cases hu : Sy.look k l with
      | none => rw [hu] at this; exact this.elim
      | some u => rw [hu] at this; exact ⟨u, rfl, this⟩
    · exact ih h.2.2 h'
theorem Fz.ts' {sz n k m : Nat} {es l l' : List (List D)} (h : l = l') : Fz sz n es (.ts k l m) (.d (.fs k l')) := by subst h; exact .ts k l m
theorem Fz.tg' {sz n k : Nat} {es l l' : List (List D)} (h : l = l') : Fz sz n es (.tg k l) (.d (.fs k l')) := by subst h; exact .tg k l
theorem Fz.nl' {sz n k : Nat} {es l' : List (List D)} (h : [] = l') : Fz sz n es (.nl k) (.d (.fs k l')) := by subst h; exact .nl k
theorem Fz.eq {sz n : Nat} {es : List (List D)} {u v : AV} (h : u = v) : Fz sz n es u v := by subst h; exact .same u
/-- A view said weaker. -/
inductive Vw : AV → AV → Prop
  | same (u : AV) : Vw u u
  | ts (k : Nat) (l : List (List D)) (m : Nat) : Vw (.ts k l m) (.d (.fs k l))
  | tg (k : Nat) (l : List (List D)) : Vw (.tg k l) (.d (.fs k l))
  | nl (k : Nat) : Vw (.nl k) (.d (.fs k []))
inductive VwO : Ob → Ob → Prop
  | same (o : Ob) : VwO o o
  | cell (u v : AV) (h : Vw u v) (hs : v.sc = true) : VwO (.cells 1 [u]) (.cells 1 [v])
def vwAt {α : Type} (R : α → α → Prop) (l : List (Nat × α)) (k : Nat) (v : α) : Prop :=
  match look k l with
  | some u => R u v
  | none => False
def VwL {α : Type} (R : α → α → Prop) (l : List (Nat × α)) : List (Nat × α) → Prop
  | [] => True
  | (k, v) :: t => vwAt R l k v ∧ VwL R l t
theorem VwL.look {α : Type} {R : α → α → Prop} {l m : List (Nat × α)} (h : VwL R l m) {k : Nat} {v : α} (hk : look k m = some v) : ∃ u, look k l = some u ∧ R u v := by
  have hm := look_mem hk
  clear hk
  induction m with
  | nil => cases hm
  | cons p t ih =>
    obtain ⟨k', v'⟩ := p
    rcases List.mem_cons.1 hm with h' | h'
    · cases h'
      have := h.1
      unfold vwAt at this
      cases hu : Sy.look k l with
      | none => rw [hu] at this; exact this.elim
      | some u => rw [hu] at this; exact ⟨u, rfl, this⟩
    · exact ih h.2 h'
theorem Vw.fz {u v : AV} (h : Vw u v) : Fz 0 0 [] u v ∧ ∀ i len l, u = .vx 0 0 i len → v ≠ .d (.fs 0 l) := by
  cases h with
  | same => exact ⟨.same _, fun i len l h => by rw [h]; intro h'; cases h'⟩
  | ts k l m => exact ⟨.ts _ _ _, fun i len l h => by cases h⟩
  | tg k l => exact ⟨.tg _ _, fun i len l h => by cases h⟩
  | nl k => exact ⟨.nl _, fun i len l h => by cases h⟩
theorem VwO.fz {u v : Ob} (h : VwO u v) : FzO 0 0 [] u v ∧ ∀ i len l, u = .cells 1 [.vx 0 0 i len] → v ≠ .cells 1 [.d (.fs 0 l)] := by
  cases h with
  | same => exact ⟨.same _, fun i len l h => by rw [h]; intro h'; cases h'⟩
  | cell u v h hs => exact ⟨.cell u v h.fz.1 hs, fun i len l h1 h2 => by cases h1; cases h2; exact h.fz.2 i len l rfl rfl⟩
theorem Vw.ts' {k m : Nat} {l l' : List (List D)} (h : l = l') : Vw (.ts k l m) (.d (.fs k l')) := by subst h; exact .ts k l m
theorem Vw.tg' {k : Nat} {l l' : List (List D)} (h : l = l') : Vw (.tg k l) (.d (.fs k l')) := by subst h; exact .tg k l
theorem Vw.nl' {k : Nat} {l' : List (List D)} (h : [] = l') : Vw (.nl k) (.d (.fs k l')) := by subst h; exact .nl k
theorem Vw.eq {u v : AV} (h : u = v) : Vw u v := by subst h; exact .same u
theorem Wk.vwL {N : Nat} {σ τ : S} (hs : VwL Vw σ.sl τ.sl) (hm : VwL VwO σ.mem τ.mem) (hok : τ.ok = true) : Wk N σ τ :=
  Wk.vw (fun k v hk => by obtain ⟨u, h1, h2⟩ := hs.look hk; exact ⟨u, h1, h2.fz.1, h2.fz.2⟩) (fun k v hk => by obtain ⟨u, h1, h2⟩ := hm.look hk; exact ⟨u, h1, h2.fz.1, h2.fz.2⟩) hok
section
variable {N : Nat}
theorem Wk.frzL {σ τ : S} (n t sz : Nat) (es : List (List D)) (fl : Bool) (hm : look n σ.mem = some (.vec t sz es fl)) (hs : FzL sz n es σ.sl τ.sl) (hmem : FzM sz n es σ.mem τ.mem) (hok : τ.ok = true) : Wk N σ τ :=
  Wk.frz hm (fun k v hk => hs.look hk) (fun k ob hk => hmem.look hk) hok
/-- The vector that a cell shows is given up. -/
def frzC (c : Nat) (σ τ : S) : Prop :=
  match look c σ.mem with
  | some (.cells 1 [.vx sz n i len]) => match look n σ.mem with
    | some (.vec t sz' es fl) => sz' = sz ∧ FzL sz n es σ.sl τ.sl ∧ FzM sz n es σ.mem τ.mem ∧ τ.ok = true
    | _ => False
  | _ => False
theorem Wk.frzC {σ τ : S} (c : Nat) (h : Sy.frzC c σ τ) : Wk N σ τ := by
  unfold Sy.frzC at h
  split at h
  · split at h
    · rename_i sz n i len _ _ t sz' es fl hm
      obtain ⟨rfl, h1, h2, h3⟩ := h
      exact Wk.frzL n t _ es fl hm h1 h2 h3
    · exact h.elim
  · exact h.elim
end
end Go.Sy
