/- A computing verification layer for data, proved sound over the library: what a body comes to, by its literal code. Conditions: none. -/
import Derived.Test.YtkcpcjhjemedpaaDoorSA
import Derived.Lib.Builder
import Derived.Lib.UnsafeStr
import Derived.Laws.MakeOwn
set_option linter.all false
/- evVal is sound: literals, builtins, calls; and all together. Conditions: none. -/
namespace Go.Sy
set_option linter.unusedVariables false
set_option linter.unusedSimpArgs false

/-- Data, cell by cell, in an array of values. -/
def LR (F : Nat → Nat → Option Value) (cs : List D) (vs : Array Value) : Prop := cs.length = vs.size ∧ ∀ j (h : j < cs.length), DR F cs[j] (vs.getD j undef)

def LX {α : Type} (R : α → Value → Prop) (cs : List α) (vs : Array Value) : Prop := cs.length = vs.size ∧ ∀ j (h : j < cs.length), R cs[j] (vs.getD j undef)

theorem foldl_set : ∀ (xs : List Value) (k off : Nat) (cells : Array Value), ((xs.zipIdx k).foldl (fun cs (c, j) => cs.setIfInBounds (off + j) c) cells).size = cells.size ∧
    (off + k + xs.length ≤ cells.size → ∀ i, ((xs.zipIdx k).foldl (fun cs (c, j) => cs.setIfInBounds (off + j) c) cells).getD i undef = if off + k ≤ i ∧ i < off + k + xs.length then xs.getD (i - (off + k)) undef else cells.getD i undef)
  | [], k, off, cells => by
    refine ⟨rfl, fun _ i => ?_⟩
    rw [if_neg (by simp only [List.length_nil]; omega)]; rfl
  | x :: xs, k, off, cells => by
    have ih := foldl_set xs (k + 1) off (cells.setIfInBounds (off + k) x)
    simp only [List.zipIdx_cons, List.foldl_cons]
    refine ⟨ih.1.trans (by simp), fun h i => ?_⟩
    simp only [List.length_cons] at h
    rw [ih.2 (by simp; omega)]
    by_cases h1 : off + (k + 1) ≤ i ∧ i < off + (k + 1) + xs.length
    · rw [if_pos h1, if_pos (by simp; omega)]
      rw [show i - (off + k) = i - (off + (k + 1)) + 1 by omega]; rfl
    · rw [if_neg h1]
      by_cases h2 : i = off + k
      · subst h2
        rw [if_pos (by simp)]
        simp [Array.getD, show off + k < cells.size by omega]
      · rw [if_neg (by simp; omega)]
        simp only [Array.getD, Array.size_setIfInBounds]
        by_cases h3 : i < cells.size
        · simp [h3, Array.getElem_setIfInBounds, show ¬ off + k = i by omega]
        · simp [h3]

theorem fill_ok {α : Type} {R : α → Value → Prop} {place : Nat → Option (Nat × Nat)} : ∀ (ps : List (Nat × Nat × List α)) (vs : List (Nat × Value)) (z z' : List α) (cells : Array Value), LX R z cells → fillD place z ps = some z' → vs.length = ps.length →
    (∀ j (h : j < ps.length) (h' : j < vs.length), vs[j].1 = ps[j].1 ∧ vs[j].2.cells.size = ps[j].2.1 ∧ ps[j].2.2.length = ps[j].2.1 ∧ LX R ps[j].2.2 vs[j].2.cells) → (∀ i o s, place i = some (o, s) → o + s ≤ cells.size) →
    ∃ cells', Instr.fill place cells vs = some cells' ∧ LX R z' cells' ∧ cells'.size = cells.size
  | [], vs, z, z', cells, hz, h, hl, _, _ => by
    cases vs with
    | nil => obtain rfl := Option.some.inj h; exact ⟨cells, rfl, hz, rfl⟩
    | cons => simp at hl
  | (i, k, l) :: ps, [], z, z', cells, hz, h, hl, _, _ => by simp at hl
  | (i, k, l) :: ps, (i', v) :: vs, z, z', cells, hz, h, hl, hp, hpl => by
    have h0 := hp 0 (by simp) (by simp)
    simp only [List.getElem_cons_zero] at h0
    obtain ⟨rfl, e2, e3, e4⟩ := h0
    simp only [fillD] at h
    split at h
    case h_2 => cases h
    rename_i off size hpi
    cases hk : Nat.beq k size with
    | false => rw [hk] at h; cases h
    | true =>
      rw [hk] at h
      simp only [cond_true] at h
      obtain rfl := Nat.eq_of_beq_eq_true hk
      have hb := hpl _ _ _ hpi
      have hf := foldl_set v.cells.toList 0 off cells
      have hfold : v.cells.zipIdx.foldl (fun cs (c, j) => cs.setIfInBounds (off + j) c) cells = (v.cells.toList.zipIdx 0).foldl (fun cs (c, j) => cs.setIfInBounds (off + j) c) cells := by
        rw [← Array.foldl_toList, Array.toList_zipIdx]
      have hsz : v.cells.toList.length = k := by simpa using e2
      have hLR : LX R (z.take off ++ l ++ z.drop (off + k)) (v.cells.zipIdx.foldl (fun cs (c, j) => cs.setIfInBounds (off + j) c) cells) := by
        rw [hfold]
        have hzl := hz.1
        refine ⟨by rw [hf.1]; simp [e3]; omega, fun j hj => ?_⟩
        rw [hf.2 (by omega)]
        simp only [List.length_append, List.length_take, List.length_drop] at hj
        by_cases h1 : j < off
        · rw [if_neg (by omega)]
          have : (z.take off ++ l ++ z.drop (off + k))[j]'(by simp; omega) = z[j]'(by omega) := by
            rw [List.getElem_append_left (by simp; omega), List.getElem_append_left (by simp; omega), List.getElem_take]
          rw [this]; exact hz.2 j (by omega)
        · by_cases h2 : j < off + k
          · rw [if_pos (by omega)]
            have : (z.take off ++ l ++ z.drop (off + k))[j]'(by simp; omega) = l[j - off]'(by omega) := by
              rw [List.getElem_append_left (by simp; omega), List.getElem_append_right (by simp; omega)]
              congr 1; simp; omega
            rw [this]
            have := e4.2 (j - off) (by omega)
            rw [show j - (off + 0) = j - off by omega]
            simpa [Array.getD, List.getD, e2, show j - off < k by omega] using this
          · rw [if_neg (by omega)]
            have : (z.take off ++ l ++ z.drop (off + k))[j]'(by simp; omega) = z[j]'(by omega) := by
              rw [List.getElem_append_right (by simp; omega), List.getElem_drop]
              congr 1; simp; omega
            rw [this]; exact hz.2 j (by omega)
      obtain ⟨cells', r1, r2, r3⟩ := fill_ok ps vs _ z' _ hLR h (by simpa using hl) (fun j h h' => hp (j + 1) (by simpa using h) (by simpa using h')) (fun i o s h => by rw [hfold, hf.1]; exact hpl _ _ _ h)
      refine ⟨cells', ?_, r2, by rw [r3, hfold, hf.1]⟩
      simp only [Instr.fill, hpi]
      rw [if_neg (by rw [e2]; simp; omega)]
      exact r1

theorem one_cells {v : Value} (h : v.oneCell' = true) : v.cells = #[v] := by
  cases v <;> first | rfl | cases h

theorem cellsD_ok {g : Gh} {v : AV} {u : Value} {k : Nat} {l : List D} (h : cellsD v = some (k, l)) (hu : AVR g v u) : u.cells.size = k ∧ l.length = k ∧ LR g.F l u.cells := by
  have one : ∀ {x : D}, DR g.F x u → u.cells.size = 1 ∧ ([x] : List D).length = 1 ∧ LR g.F [x] u.cells := fun {x} hx => by
    rw [one_cells hx.one]
    exact ⟨rfl, rfl, rfl, fun j hj => by
      have hj0 : j = 0 := by simpa using hj
      subst hj0; exact hx⟩
  cases v <;> simp only [cellsD] at h <;> first | (cases h; done) | skip
  · simp only [Option.some.injEq, Prod.mk.injEq] at h; obtain ⟨rfl, rfl⟩ := h
    cases hu with | d _ _ hx => exact one hx
  · simp only [Option.some.injEq, Prod.mk.injEq] at h; obtain ⟨rfl, rfl⟩ := h
    cases hu with | dg _ _ vs h1 h2 h3 => exact ⟨h1, h2, h2.trans h1.symm, h3⟩
  · rename_i k' cs
    split at h
    · rename_i l' hl
      simp only [Option.some.injEq, Prod.mk.injEq] at h; obtain ⟨rfl, rfl⟩ := h
      cases hu with
      | ag _ _ vs h1 h2 h3 h4 =>
        obtain ⟨i1, i2⟩ := frzL_ok (g := g) hl
        exact ⟨h1, i1.trans h2, i1.trans (h2.trans h1.symm), fun j hj => i2 (fun j => vs.getD j undef) h4 j hj⟩
    · cases h
  · simp only [Option.some.injEq, Prod.mk.injEq] at h; obtain ⟨rfl, rfl⟩ := h
    refine one ?_
    cases hu with
    | ts0 => assumption
    | ts => assumption
  · simp only [Option.some.injEq, Prod.mk.injEq] at h; obtain ⟨rfl, rfl⟩ := h
    cases hu; exact one (by assumption)
  · simp only [Option.some.injEq, Prod.mk.injEq] at h; obtain ⟨rfl, rfl⟩ := h
    cases hu; exact one (.fs0 _ _ _)

theorem partsD_ok {g : Gh} {a : Act} {r : Operand → Option AV} : ∀ {parts : List (Nat × Operand)} {ps : List (Nat × Nat × List D)}, partsD r parts = some ps → (∀ p ∈ parts, ∀ v, r p.2 = some v → AVR g v (a.eval p.2)) →
    (parts.map fun p => (p.1, a.eval p.2)).length = ps.length ∧ ∀ j (h : j < ps.length) (h' : j < (parts.map fun p => (p.1, a.eval p.2)).length), (parts.map fun p => (p.1, a.eval p.2))[j].1 = ps[j].1 ∧ (parts.map fun p => (p.1, a.eval p.2))[j].2.cells.size = ps[j].2.1 ∧ ps[j].2.2.length = ps[j].2.1 ∧ LR g.F ps[j].2.2 (parts.map fun p => (p.1, a.eval p.2))[j].2.cells
  | [], ps, h, _ => by obtain rfl := Option.some.inj h; exact ⟨rfl, fun j h => by cases h⟩
  | (i, x) :: t, ps, h, ho => by
    simp only [partsD] at h
    split at h
    · rename_i k l rest h1 h2
      obtain rfl := Option.some.inj h
      obtain ⟨i1, i2⟩ := partsD_ok (g := g) (a := a) h2 (fun p hp => ho p (List.mem_cons_of_mem _ hp))
      cases hx : r x with
      | none => rw [hx] at h1; cases h1
      | some v =>
        rw [hx] at h1
        have hc := cellsD_ok (g := g) (by simpa using h1) (ho (i, x) List.mem_cons_self v hx)
        refine ⟨by simpa using i1, fun j h h' => ?_⟩
        cases j with
        | zero => exact ⟨rfl, hc.1, hc.2.1, hc.2.2⟩
        | succ j => exact i2 j (by simpa using h) (by simpa using h')
    · cases h

theorem zeroL_ok {g : Gh} {z : Option Value} {h : List Nat} (h0 : 0 < (zeroL z h).length) : ∃ v, z = some v ∧ LR g.F (zeroL z h) v.cells ∧ LX (AVR g) ((zeroL z h).map toA) v.cells := by
  cases z with
  | none => cases h0
  | some v =>
    simp only [zeroL] at h0 ⊢
    cases ha : v.cells.toList.all Value.oneCell' with
    | false => rw [ha] at h0; cases h0
    | true =>
      simp only [cond_true]
      have key : ∀ j (hj : j < v.cells.size), (v.cells.getD j undef).oneCell' = true ∧ v.cells.getD j undef = v.cells.toList[j]'(by simpa using hj) := fun j hj => by
        have e : v.cells.getD j undef = v.cells[j] := by simp [Array.getD, hj]
        rw [e]
        exact ⟨List.all_eq_true.1 ha _ (by simp), by simp⟩
      refine ⟨v, rfl, ⟨by simp [zl_length], fun j hj => ?_⟩, ⟨by simp [zl_length], fun j hj => ?_⟩⟩
      · have hj' : j < v.cells.size := by simpa [zl_length] using hj
        obtain ⟨sz, e⟩ := zl_get v.cells.toList h j hj (by simpa using hj')
        rw [e, (key j hj').2]
        exact zeroD_ok g.F sz _ ((key j hj').2 ▸ (key j hj').1)
      · have hj' : j < v.cells.size := by simpa [zl_length] using hj
        simp only [List.getElem_map]
        obtain ⟨sz, e⟩ := zl_get v.cells.toList h j (by simpa [zl_length] using hj') (by simpa using hj')
        rw [e, (key j hj').2]
        exact zeroA_ok g sz _ ((key j hj').2 ▸ (key j hj').1)

theorem sc_one {g : Gh} {v : AV} {u : Value} (h : AVR g v u) (hs : v.sc = true) : u.cells = #[u] := one_cells (h.one hs)

theorem cellsA_ok {g : Gh} {v : AV} {u : Value} {k m : Nat} {l : List AV} (h : cellsA v = some (k, l)) (hu : AVR g v u) (hl : v.lt m = true) :
    u.cells.size = k ∧ l.length = k ∧ (∀ j (h : j < l.length), l[j].sc = true) ∧ (∀ x ∈ l, x.lt1 m = true) ∧ (∀ j (h : j < l.length), AVR g l[j] (u.cells.getD j undef)) := by
  have one : v.sc = true → k = 1 → l = [v] → v.lt1 m = true → u.cells.size = k ∧ l.length = k ∧ (∀ j (h : j < l.length), l[j].sc = true) ∧ (∀ x ∈ l, x.lt1 m = true) ∧ (∀ j (h : j < l.length), AVR g l[j] (u.cells.getD j undef)) := by
    rintro hs rfl rfl hl1
    rw [sc_one hu hs]
    refine ⟨rfl, rfl, fun j hj => ?_, fun x hx => ?_, fun j hj => ?_⟩
    · obtain rfl : j = 0 := by simp at hj; exact hj
      exact hs
    · simp only [List.mem_singleton] at hx; subst hx; exact hl1
    · obtain rfl : j = 0 := by simp at hj; exact hj
      exact hu
  cases v with
  | dg k' cs =>
    simp only [cellsA, Option.some.injEq, Prod.mk.injEq] at h; obtain ⟨rfl, rfl⟩ := h
    cases hu with
    | dg _ _ vs h1 h2 h3 =>
      refine ⟨h1, by simpa using h2, fun j hj => by simp [AV.sc], fun x hx => ?_, fun j hj => ?_⟩
      · obtain ⟨y, _, rfl⟩ := List.mem_map.1 hx; rfl
      · simp only [List.length_map] at hj
        simp only [List.getElem_map]
        exact .d _ _ (h3 j hj)
  | ag k' cs =>
    simp only [cellsA, Option.some.injEq, Prod.mk.injEq] at h; obtain ⟨rfl, rfl⟩ := h
    simp only [AV.lt, AV.lt2, List.all_eq_true] at hl
    cases hu with
    | ag _ _ vs h1 h2 h3 h4 => exact ⟨h1, h2, h3, hl, h4⟩
  | tup vs => cases h
  | junk => cases h
  | _ =>
    simp only [cellsA, Option.some.injEq, Prod.mk.injEq] at h
    exact one rfl h.1.symm h.2.symm hl

theorem partsA_ok {g : Gh} {a : Act} {r : Operand → Option AV} {m : Nat} : ∀ {parts : List (Nat × Operand)} {ps : List (Nat × Nat × List AV)}, partsA r parts = some ps → (∀ p ∈ parts, ∀ v, r p.2 = some v → AVR g v (a.eval p.2) ∧ v.lt m = true) →
    (parts.map fun p => (p.1, a.eval p.2)).length = ps.length ∧ (∀ p ∈ ps, (∀ x ∈ p.2.2, x.sc = true ∧ x.lt1 m = true)) ∧ ∀ j (h : j < ps.length) (h' : j < (parts.map fun p => (p.1, a.eval p.2)).length), (parts.map fun p => (p.1, a.eval p.2))[j].1 = ps[j].1 ∧ (parts.map fun p => (p.1, a.eval p.2))[j].2.cells.size = ps[j].2.1 ∧ ps[j].2.2.length = ps[j].2.1 ∧ LX (AVR g) ps[j].2.2 (parts.map fun p => (p.1, a.eval p.2))[j].2.cells
  | [], ps, h, _ => by obtain rfl := Option.some.inj h; exact ⟨rfl, (fun p hp => by cases hp), fun j h => by cases h⟩
  | (i, x) :: t, ps, h, ho => by
    simp only [partsA] at h
    split at h
    · rename_i k l rest h1 h2
      obtain rfl := Option.some.inj h
      obtain ⟨i1, i2, i3⟩ := partsA_ok (g := g) (a := a) (m := m) h2 (fun p hp => ho p (List.mem_cons_of_mem _ hp))
      cases hx : r x with
      | none => rw [hx] at h1; cases h1
      | some v =>
        rw [hx] at h1
        obtain ⟨o1, o2⟩ := ho (i, x) List.mem_cons_self v hx
        obtain ⟨q1, q2, q3, q4, q5⟩ := cellsA_ok (g := g) (m := m) (by simpa using h1) o1 o2
        refine ⟨by simpa using i1, fun p hp => ?_, fun j h h' => ?_⟩
        · rcases List.mem_cons.1 hp with rfl | hp
          · intro y hy
            obtain ⟨j, hj, rfl⟩ := List.mem_iff_getElem.1 hy
            exact ⟨q3 j hj, q4 _ hy⟩
          · exact i2 p hp
        · cases j with
          | zero => exact ⟨rfl, q1, q2, ⟨q2.trans q1.symm, q5⟩⟩
          | succ j => exact i3 j (by simpa using h) (by simpa using h')
    · cases h

theorem cellsA_lt {v : AV} {k m : Nat} {l : List AV} (h : cellsA v = some (k, l)) (hl : v.lt m = true) : ∀ x ∈ l, x.lt1 m = true := by
  cases v with
  | dg k' cs =>
    simp only [cellsA, Option.some.injEq, Prod.mk.injEq] at h; obtain ⟨rfl, rfl⟩ := h
    intro x hx
    obtain ⟨y, _, rfl⟩ := List.mem_map.1 hx; rfl
  | ag k' cs =>
    simp only [cellsA, Option.some.injEq, Prod.mk.injEq] at h; obtain ⟨rfl, rfl⟩ := h
    simpa only [AV.lt, AV.lt2, List.all_eq_true] using hl
  | tup vs => cases h
  | junk => cases h
  | _ =>
    simp only [cellsA, Option.some.injEq, Prod.mk.injEq] at h
    obtain ⟨rfl, rfl⟩ := h
    intro x hx
    simp only [List.mem_singleton] at hx; subst hx; exact hl

theorem partsA_lt {r : Operand → Option AV} {m : Nat} : ∀ {parts : List (Nat × Operand)} {ps : List (Nat × Nat × List AV)}, partsA r parts = some ps → (∀ x v, r x = some v → v.lt m = true) → ∀ p ∈ ps, ∀ x ∈ p.2.2, x.lt1 m = true
  | [], ps, h, _ => by obtain rfl := Option.some.inj h; exact fun p hp => by cases hp
  | (i, x) :: t, ps, h, ho => by
    simp only [partsA] at h
    split at h
    · rename_i k l rest h1 h2
      obtain rfl := Option.some.inj h
      intro p hp
      rcases List.mem_cons.1 hp with rfl | hp
      · cases hx : r x with
        | none => rw [hx] at h1; cases h1
        | some v => rw [hx] at h1; exact cellsA_lt (by simpa using h1) (ho x v hx)
      · exact partsA_lt h2 ho p hp
    · cases h

theorem fillD_all {α : Type} {Q : α → Prop} {place : Nat → Option (Nat × Nat)} : ∀ {ps : List (Nat × Nat × List α)} {z z' : List α}, fillD place z ps = some z' → (∀ x ∈ z, Q x) → (∀ p ∈ ps, ∀ x ∈ p.2.2, Q x) → ∀ x ∈ z', Q x
  | [], z, z', h, hz, _ => by obtain rfl := Option.some.inj h; exact hz
  | (i, k, l) :: ps, z, z', h, hz, hp => by
    simp only [fillD] at h
    split at h
    case h_2 => cases h
    rename_i off size hpi
    cases hk : Nat.beq k size with
    | false => rw [hk] at h; cases h
    | true =>
      rw [hk] at h
      refine fillD_all h (fun x hx => ?_) fun p hp' => hp p (List.mem_cons_of_mem _ hp')
      rcases List.mem_append.1 hx with hx | hx
      · rcases List.mem_append.1 hx with hx | hx
        · exact hz x (List.mem_of_mem_take hx)
        · exact hp _ List.mem_cons_self x hx
      · exact hz x (List.mem_of_mem_drop hx)

section
variable {P : Program} {ti : Nat → Option Ty} {mem : List (Nat × Ob)} {nx : Nat} {r : Operand → Option AV} {o : Oper} {K : AV → Prop}

theorem mapM_get {fs : List Field} : ∀ {pl : List (Nat × Nat)}, fs.mapM (fun f => (P.info? f.type).map fun i => (f.offset, i.size)) = some pl → True := fun _ => trivial

theorem does_build_struct {t : Nat} {parts : Array (Nat × Operand)} {ty : Ty} {fs : List (Nat × Nat)} {ps : List (Nat × Nat × List D)} {l : List D} (hti : TiOK P ti) (hop : o.op = .build t parts) (ht : ti t = some ty) (hk : ty.kd = .struct fs) (hp : partsD r parts.toList = some ps)
    (hz : ty.zero.length = ty.size) (h0 : 0 < ty.size) (hpl : ty.pl.all (fun p => Nat.ble (p.1 + p.2) ty.size) = true) (hf : fillD (fun i => ty.pl[i]?) ty.zero ps = some l) : Does P mem nx r o (.dg ty.size l) := by
  obtain ⟨u, i, ht⟩ := tyOf_ok (hti _ _ ht)
  obtain ⟨fields, rfl, hfl⟩ := fields_of ht hk
  refine .of_run rfl fun κ g a w hi ho => ?_
  obtain ⟨p1, p2⟩ := partsD_ok (g := g) (a := a) hp (fun p hp v hv => ho p.2 (by simp only [hop, Op.operands, List.mem_map]; exact ⟨p, hp, rfl⟩) v hv)
  obtain ⟨zv, hzv, hLR, hLA⟩ := zeroL_ok (g := g) (z := i.zero) (h := slH P 6 t) (by rw [ht.zero]; omega)
  rw [ht.zero] at hLR hLA
  have hcs : zv.cells.size = ty.size := by rw [← hLR.1, hz]
  obtain ⟨cells, q1, q2, q3⟩ := fill_ok (R := DR g.F) ps (parts.toList.map fun p => (p.1, a.eval p.2)) ty.zero l zv.cells hLR hf p1 p2 (fun i o s h => by
    have h' : ty.pl[i]? = some (o, s) := h
    have hm : (o, s) ∈ ty.pl := List.mem_of_getElem? h'
    have := List.all_eq_true.1 hpl _ hm
    rw [hcs]; simpa using this)
  have hb : P.built t (parts.map fun (i, x) => (i, a.eval x)).toList = some cells := by
    have hpl' : fields.toList.mapM (fun f => (P.info? f.type).map fun i => (f.offset, i.size)) = some ty.pl := ht.pl
    simp only [Program.built, ht.info, ht.und, hzv, hpl', Array.toList_map]
    rw [← q1]
    congr 1
    funext i
    simp
  refine ⟨.agg cells, by simp only [execOp, hop, Sem.run_bind, run_build w t _ cells hb, Result.andThen_ok, Sem.run_pure], .dg _ _ _ (by omega) (by rw [q2.1]; omega) q2.2⟩

theorem does_build_structA {t : Nat} {parts : Array (Nat × Operand)} {ty : Ty} {fs : List (Nat × Nat)} {ps : List (Nat × Nat × List AV)} {l : List AV} (hti : TiOK P ti) (hop : o.op = .build t parts) (ht : ti t = some ty) (hk : ty.kd = .struct fs) (hp : partsA r parts.toList = some ps) (hlt : ∀ x v, r x = some v → v.lt nx = true)
    (hz : ty.zero.length = ty.size) (h0 : 0 < ty.size) (hpl : ty.pl.all (fun p => Nat.ble (p.1 + p.2) ty.size) = true) (hf : fillD (fun i => ty.pl[i]?) (ty.zero.map toA) ps = some l) : Does P mem nx r o (.ag ty.size l) := by
  obtain ⟨u, i, ht⟩ := tyOf_ok (hti _ _ ht)
  obtain ⟨fields, rfl, hfl⟩ := fields_of ht hk
  have hall : ∀ (g : Gh) (a : Act), (∀ p ∈ parts.toList, ∀ v, r p.2 = some v → AVR g v (a.eval p.2) ∧ v.lt nx = true) → ∀ x ∈ l, x.sc = true ∧ x.lt1 nx = true := fun g a h => by
    obtain ⟨p1, p2, p3⟩ := partsA_ok (g := g) (a := a) (m := nx) hp h
    refine fillD_all (Q := fun x => x.sc = true ∧ x.lt1 nx = true) hf (fun x hx => ?_) p2
    obtain ⟨y, _, rfl⟩ := List.mem_map.1 hx
    exact ⟨toA_sc _, toA_lt _ _⟩
  have hlt' : (AV.ag ty.size l).lt nx = true := by
    simp only [AV.lt, AV.lt2, List.all_eq_true]
    refine fillD_all (Q := fun x => x.lt1 nx = true) hf (fun x hx => ?_) (partsA_lt hp hlt)
    obtain ⟨y, _, rfl⟩ := List.mem_map.1 hx
    exact toA_lt _ _
  refine .of_run hlt' fun κ g a w hi ho => ?_
  have hops : ∀ p ∈ parts.toList, ∀ v, r p.2 = some v → AVR g v (a.eval p.2) ∧ v.lt nx = true := fun p hp v hv => ⟨ho p.2 (by simp only [hop, Op.operands, List.mem_map]; exact ⟨p, hp, rfl⟩) v hv, hlt _ _ hv⟩
  obtain ⟨p1, p2, p3⟩ := partsA_ok (g := g) (a := a) (m := nx) hp hops
  obtain ⟨zv, hzv, hLR, hLA⟩ := zeroL_ok (g := g) (z := i.zero) (h := slH P 6 t) (by rw [ht.zero]; omega)
  rw [ht.zero] at hLR hLA
  have hcs : zv.cells.size = ty.size := by rw [← hLR.1, hz]
  obtain ⟨cells, q1, q2, q3⟩ := fill_ok (R := AVR g) ps (parts.toList.map fun p => (p.1, a.eval p.2)) _ l zv.cells hLA hf p1 p3 (fun i o s h => by
    have h' : ty.pl[i]? = some (o, s) := h
    have hm : (o, s) ∈ ty.pl := List.mem_of_getElem? h'
    have := List.all_eq_true.1 hpl _ hm
    rw [hcs]; simpa using this)
  have hb : P.built t (parts.map fun (i, x) => (i, a.eval x)).toList = some cells := by
    have hpl' : fields.toList.mapM (fun f => (P.info? f.type).map fun i => (f.offset, i.size)) = some ty.pl := ht.pl
    simp only [Program.built, ht.info, ht.und, hzv, hpl', Array.toList_map]
    rw [← q1]
    congr 1
    funext i
    simp
  exact ⟨.agg cells, by simp only [execOp, hop, Sem.run_bind, run_build w t _ cells hb, Result.andThen_ok, Sem.run_pure], .ag _ _ _ (by omega) (by rw [q2.1]; omega) (fun j hj => (hall g a hops _ (List.getElem_mem hj)).1) q2.2⟩

theorem does_build_arr {t n e : Nat} {parts : Array (Nat × Operand)} {ty ety : Ty} {ps : List (Nat × Nat × List D)} {l : List D} (hti : TiOK P ti) (hop : o.op = .build t parts) (ht : ti t = some ty) (hk : ty.kd = .arr n e) (he : ti e = some ety) (hp : partsD r parts.toList = some ps)
    (hz : ty.zero.length = ty.size) (h0 : 0 < ty.size) (hpl : ps.all (fun p => Nat.ble (p.1 * ety.size + ety.size) ty.size) = true) (hf : fillD (fun i => bif Nat.ble (i * ety.size + ety.size) ty.size then some (i * ety.size, ety.size) else none) ty.zero ps = some l) : Does P mem nx r o (.dg ty.size l) := by
  obtain ⟨u, i, ht⟩ := tyOf_ok (hti _ _ ht)
  obtain ⟨ue, ie, het⟩ := tyOf_ok (hti _ _ he)
  obtain rfl := arr_of ht hk
  refine .of_run rfl fun κ g a w hi ho => ?_
  obtain ⟨p1, p2⟩ := partsD_ok (g := g) (a := a) hp (fun p hp v hv => ho p.2 (by simp only [hop, Op.operands, List.mem_map]; exact ⟨p, hp, rfl⟩) v hv)
  obtain ⟨zv, hzv, hLR, hLA⟩ := zeroL_ok (g := g) (z := i.zero) (h := slH P 6 t) (by rw [ht.zero]; omega)
  rw [ht.zero] at hLR hLA
  have hcs : zv.cells.size = ty.size := by rw [← hLR.1, hz]
  obtain ⟨cells, q1, q2, q3⟩ := fill_ok (R := DR g.F) ps (parts.toList.map fun p => (p.1, a.eval p.2)) ty.zero l zv.cells hLR hf p1 p2 (fun i o s h => by
    cases hb : Nat.ble (i * ety.size + ety.size) ty.size with
    | false => simp only [hb, cond_false] at h; cases h
    | true =>
      simp only [hb, cond_true, Option.some.injEq, Prod.mk.injEq] at h
      obtain ⟨rfl, rfl⟩ := h
      rw [hcs]; simpa using hb)
  have hfill : ∀ (vs : List (Nat × Value)) (c : Array Value) (c' : Array Value), Instr.fill (fun i => bif Nat.ble (i * ety.size + ety.size) ty.size then some (i * ety.size, ety.size) else none) c vs = some c' → Instr.fill (fun i => some (i * ety.size, ety.size)) c vs = some c' := by
    intro vs
    induction vs with
    | nil => exact fun _ _ h => h
    | cons p vs ih =>
      intro c c' h
      obtain ⟨i, v⟩ := p
      simp only [Instr.fill] at h ⊢
      cases hb : Nat.ble (i * ety.size + ety.size) ty.size with
      | false => simp only [hb, cond_false] at h; cases h
      | true =>
        simp only [hb, cond_true] at h
        split at h
        · cases h
        · rename_i hc; rw [if_neg hc]; exact ih _ _ h
  have hb : P.built t (parts.map fun (i, x) => (i, a.eval x)).toList = some cells := by
    simp only [Program.built, ht.info, ht.und, hzv, het.info, Array.toList_map, het.size]
    exact hfill _ _ _ q1
  refine ⟨.agg cells, by simp only [execOp, hop, Sem.run_bind, run_build w t _ cells hb, Result.andThen_ok, Sem.run_pure], .dg _ _ _ (by omega) (by rw [q2.1]; omega) q2.2⟩
end
end Go.Sy

/- evVal is sound: slices' literals, builtins, calls; and all together. Conditions: none. -/
namespace Go.Sy
set_option linter.unusedVariables false
set_option linter.unusedSimpArgs false

theorem zeros_length (n : Nat) (z : List D) : (zeros n z).length = n * z.length := by
  induction n with
  | zero => simp [zeros]
  | succ n ih => simp [zeros, ih, Nat.add_mul]; omega

theorem zeros_get (z : List D) : ∀ (n j : Nat) (h : j < (zeros n z).length), ∃ h' : j % z.length < z.length, (zeros n z)[j] = z[j % z.length]
  | 0, j, h => by simp [zeros] at h
  | n + 1, j, h => by
    have hz : 0 < z.length := by
      rcases Nat.eq_zero_or_pos z.length with h0 | h0
      · simp [zeros_length, h0] at h
      · exact h0
    refine ⟨Nat.mod_lt _ hz, ?_⟩
    simp only [zeros]
    by_cases hj : j < z.length
    · rw [List.getElem_append_left hj]; congr 1; exact (Nat.mod_eq_of_lt hj).symm
    · rw [List.getElem_append_right (by omega)]
      obtain ⟨h1, h2⟩ := zeros_get z n (j - z.length) (by simp only [zeros, List.length_append] at h; omega)
      rw [h2]; congr 1
      rw [← Nat.mod_eq_sub_mod (by omega)]

theorem chunk_length (sz : Nat) : ∀ (n : Nat) (l : List D), (chunk sz n l).length = n
  | 0, _ => rfl
  | n + 1, l => by simp [chunk, chunk_length sz n]

theorem chunk_get (sz : Nat) : ∀ (n : Nat) (l : List D) (i : Nat) (h : i < (chunk sz n l).length), (chunk sz n l)[i] = (l.drop (i * sz)).take sz
  | 0, _, i, h => by simp [chunk] at h
  | n + 1, l, 0, h => by simp [chunk]
  | n + 1, l, i + 1, h => by
    simp only [chunk, List.getElem_cons_succ]
    rw [chunk_get sz n _ i (by simpa [chunk] using h), List.drop_drop]
    congr 2; rw [Nat.add_mul]; omega

section
variable {P : Program} {ti : Nat → Option Ty} {mem : List (Nat × Ob)} {nx : Nat} {r : Operand → Option AV} {o : Oper} {K : AV → Prop}

/-- A frozen row of chunks, as a slice. -/
theorem DR.chunks {F : Nat → Nat → Option Value} {sz n b : Nat} {l : List D} {arr : Array Value} (hl : LR F l arr) (hn : l.length = n * sz) (hF : ∀ o, o < n * sz → F b o = some (arr.getD o undef)) (cap : Nat) (hc : n ≤ cap) :
    DR F (.fs sz (chunk sz n l)) (.slice (some ⟨b, 0, none⟩) n cap) := by
  have bnd : ∀ i j, i < n → j < sz → i * sz + j < n * sz := fun i j hi hj => by
    have : (i + 1) * sz ≤ n * sz := Nat.mul_le_mul_right _ (by omega)
    rw [Nat.add_mul] at this; omega
  refine .fs _ _ _ _ _ _ (fun i j => arr.getD (i * sz + j) undef) (chunk_length sz n l) hc (fun i hi => ?_) (fun i j hi hj => ?_) fun i hi j hj => ?_
  · rw [chunk_get]
    rw [chunk_length] at hi
    simp only [List.length_take, List.length_drop, hn]
    have : (i + 1) * sz ≤ n * sz := Nat.mul_le_mul_right _ (by omega)
    rw [Nat.add_mul] at this; omega
  · rw [Nat.zero_add]; exact hF _ (bnd i j hi hj)
  · have hi' : i < n := by rwa [chunk_length] at hi
    have hj' : j < sz := by rw [chunk_get] at hj; simp at hj; omega
    have e : (chunk sz n l)[i][j] = l[i * sz + j]'(by rw [hn]; exact bnd i j hi' hj') := by
      simp only [chunk_get, List.getElem_take, List.getElem_drop]
    rw [e]; exact hl.2 _ _

theorem run_buildSlice {t e n : Nat} {parts : Array (Nat × Operand)} {ty ety : Ty} {ps : List (Nat × Nat × List D)} {l : List D} (hti : TiOK P ti) (hop : o.op = .buildSlice t n parts) (ht : ti t = some ty) (hk : ty.kd = .slice e) (he : ti e = some ety) (hp : partsD r parts.toList = some ps)
    (hz : ety.zero.length = ety.size) (h0 : 0 < ety.size) (hlim : n * ety.size ≤ 16777216) (hpl : ps.all (fun p => Nat.blt p.1 n) = true) (hf : fillD (fun i => bif Nat.blt i n then some (i * ety.size, ety.size) else none) (zeros n ety.zero) ps = some l)
    {κ : Ctx} {g : Gh} {a : Act} {w : World} (hi : Inv κ g mem w) (ho : ∀ x ∈ o.op.operands.toList, ∀ v, r x = some v → AVR g v (a.eval x)) : ∃ cells : Array Value, cells.size = n * ety.size ∧ LR g.F l cells ∧ (execOp a.eval o).run P w = .ok (.value (.slice (some ⟨w.heap.size, 0, none⟩) n n)) (w.alloc (.cells cells e)) := by
  obtain ⟨u, i, ht⟩ := tyOf_ok (hti _ _ ht)
  obtain ⟨ue, ie, het⟩ := tyOf_ok (hti _ _ he)
  obtain rfl := slice_of ht hk
  obtain ⟨p1, p2⟩ := partsD_ok (g := g) (a := a) hp (fun p hp v hv => ho p.2 (by simp only [hop, Op.operands, List.mem_map]; exact ⟨p, hp, rfl⟩) v hv)
  obtain ⟨zv, hzv, hLR, hLA⟩ := zeroL_ok (g := g) (z := ie.zero) (h := slH P 6 e) (by rw [het.zero]; omega)
  rw [het.zero] at hLR hLA
  have hcs : zv.cells.size = ety.size := by rw [← hLR.1, hz]
  -- the row of zeros
  generalize hrow : (if n * ie.size = 0 then (#[] : Array Value) else zv.cells) = zc
  have hZ : LR g.F (zeros n ety.zero) ((Array.range (n * ety.size)).map (zc[· % zc.size]!)) := by
    refine ⟨by simp [zeros_length, hz], fun j hj => ?_⟩
    have hlen : j < n * ety.size := by simpa [zeros_length, hz] using hj
    have hzc : zc = zv.cells := by
      rw [← hrow, if_neg]; rw [het.size]; omega
    obtain ⟨h1, h2⟩ := zeros_get ety.zero n j hj
    rw [h2]
    have hm : j % ety.size < zv.cells.size := by rw [hcs]; exact Nat.mod_lt _ h0
    have : ((Array.range (n * ety.size)).map (zc[· % zc.size]!)).getD j undef = zv.cells.getD (j % ety.size) undef := by
      rw [hzc]
      have e1 : ∀ (A : Array Value) (h : j < A.size), A.getD j undef = A[j] := fun A h => by rw [Array.getD, dif_pos h]; rfl
      rw [e1 _ (by simpa using hlen), Array.getElem_map, Array.getElem_range, hcs, getElem!_pos zv.cells (j % ety.size) hm, Array.getD, dif_pos hm]; rfl
    rw [this]
    have := hLR.2 (j % ety.zero.length) h1
    simpa only [hz] using this
  obtain ⟨cells, q1, q2, q3⟩ := fill_ok (R := DR g.F) ps (parts.toList.map fun p => (p.1, a.eval p.2)) _ l _ hZ hf p1 p2 (fun i o s h => by
    cases hb : Nat.blt i n with
    | false => simp only [hb, cond_false] at h; cases h
    | true =>
      simp only [hb, cond_true, Option.some.injEq, Prod.mk.injEq] at h
      obtain ⟨rfl, rfl⟩ := h
      simp only [Nat.blt_eq] at hb
      have : (i + 1) * ety.size ≤ n * ety.size := Nat.mul_le_mul_right _ (by omega)
      rw [Nat.add_mul] at this
      simp; omega)
  have hfill : ∀ (vs : List (Nat × Value)) (c c' : Array Value), Instr.fill (fun i => bif Nat.blt i n then some (i * ety.size, ety.size) else none) c vs = some c' → Instr.fill (fun i => some (i * ety.size, ety.size)) c vs = some c' := by
    intro vs
    induction vs with
    | nil => exact fun _ _ h => h
    | cons p vs ih =>
      intro c c' h
      obtain ⟨i, v⟩ := p
      simp only [Instr.fill] at h ⊢
      cases hb : Nat.blt i n with
      | false => simp only [hb, cond_false] at h; cases h
      | true =>
        simp only [hb, cond_true] at h
        split at h
        · cases h
        · rename_i hc; rw [if_neg hc]; exact ih _ _ h
  have hsz : cells.size = n * ety.size := by rw [q3]; simp
  have hrun : (execOp a.eval o).run P w = .ok (.value (.slice (some ⟨w.heap.size, 0, none⟩) n n)) (w.alloc (.cells cells e)) := by
    have hfl := hfill _ _ _ q1
    have hmap : (parts.map fun (i, x) => (i, a.eval x)).toList = parts.toList.map fun p => (p.1, a.eval p.2) := by simp
    simp only [execOp, hop, Instr.buildSlice, Sem.run_bind, run_underlying ht.und, Result.andThen_ok, run_sizeOf' het.info, het.size, Sem.run_ite]
    rw [if_neg (by omega)]
    rw [het.size] at hrow
    by_cases hnz : n * ety.size = 0
    · rw [if_pos hnz] at hrow ⊢
      subst hrow
      simp only [Sem.run_pure, Result.andThen_ok, hmap, hfl, newRow, Sem.run_bind, run_newObj]
      rfl
    · rw [if_neg hnz] at hrow ⊢
      subst hrow
      simp only [zeroValue, Sem.run_bind, run_typeInfo' het.info, Result.andThen_ok, hzv, Sem.run_pure, hmap, hfl, newRow, run_newObj]
      rfl
  exact ⟨cells, hsz, q2, hrun⟩

theorem does_buildSlice {t e n : Nat} {parts : Array (Nat × Operand)} {ty ety : Ty} {ps : List (Nat × Nat × List D)} {l : List D} (hti : TiOK P ti) (hop : o.op = .buildSlice t n parts) (ht : ti t = some ty) (hk : ty.kd = .slice e) (he : ti e = some ety) (hp : partsD r parts.toList = some ps)
    (hz : ety.zero.length = ety.size) (h0 : 0 < ety.size) (hlim : n * ety.size ≤ 16777216) (hpl : ps.all (fun p => Nat.blt p.1 n) = true) (hf : fillD (fun i => bif Nat.blt i n then some (i * ety.size, ety.size) else none) (zeros n ety.zero) ps = some l)
    (hmem : ∀ n ob, look n mem = some ob → n < nx ∧ ob.lt nx = true) : Does P mem nx r o (.tg ety.size (chunk ety.size n l)) := by
  refine ⟨rfl, fun κ g a w hi ho next Q hn => ?_⟩
  obtain ⟨cells, hsz, q2, hrun⟩ := run_buildSlice hti hop ht hk he hp hz h0 hlim hpl hf hi ho
  obtain ⟨g', he', hi', hF⟩ := hi.newFrozen (w' := w.alloc (.cells cells e)) hmem rfl rfl rfl rfl (n * ety.size) (by omega)
  refine wp_value hrun (hn g' _ _ he' hi' (.tg _ _ _ _ (chunk_length _ _ _) ?_))
  exact DR.chunks (arr := cells) ⟨q2.1, fun j hj => (q2.2 j hj).mono he'.F⟩ (by rw [q2.1]; exact hsz) hF n (Nat.le_refl _)

theorem run_call_builtin {b : Builtin} {args : Array Operand} {ats : Array TypeId} (hop : o.op = .call ⟨.builtin b, args, ats⟩) (a : Act) : execOp a.eval o = builtin b ats o.type (args.map fun | .const _ => true | _ => false) (args.map a.eval) := by
  simp only [execOp, hop, resolve, pure_bind, invoke]
  rfl

theorem does_len_str {x : Operand} {ats : Array TypeId} {ty : Ty} {l : List UInt8} (hti : TiOK P ti) (hop : o.op = .call ⟨.builtin .len, #[x], ats⟩) {t : Nat} (ht : ti t = some ty) (hk : ty.kd = .string) (h0 : ats[0]? = some t) (hx : r x = some (.d (.st l))) : Does P mem nx r o (.d (.it .i64 l.length)) := by
  obtain ⟨u, i, ht⟩ := tyOf_ok (hti _ _ ht)
  obtain rfl := string_of ht hk
  refine .of_run rfl fun κ g a w hi ho => ⟨_, ?_, .d _ _ (.it _ _)⟩
  have h1 := evalStr (ho x (by simp [hop, Op.operands, Call.operands]) _ hx)
  rw [run_call_builtin hop]
  have hsz : (⟨l.toArray⟩ : ByteArray).size = l.length := by simp [ByteArray.size]
  simp [builtin, Builtin.len_, h1, h0, run_underlying ht.und, goInt, hsz]

theorem does_len_slice {x : Operand} {ats : Array TypeId} {ty : Ty} {v : AV} {e sz : Nat} {es : List (List D)} (hti : TiOK P ti) (hop : o.op = .call ⟨.builtin .len, #[x], ats⟩) {t : Nat} (ht : ti t = some ty) (hk : ty.kd = .slice e) (h0 : ats[0]? = some t) (hx : r x = some v) (hv : sliceOf v = some (sz, es)) : Does P mem nx r o (.d (.it .i64 es.length)) := by
  obtain ⟨u, i, ht⟩ := tyOf_ok (hti _ _ ht)
  obtain rfl := slice_of ht hk
  refine .of_run rfl fun κ g a w hi ho => ⟨.int .i64 es.length, ?_, .d _ _ (.it _ _)⟩
  have h1 := sliceOf_ok hv (ho x (by simp [hop, Op.operands, Call.operands]) _ hx)
  have h2 : ∃ ad cap, a.eval x = .slice ad es.length cap := by
    generalize a.eval x = q at h1
    cases h1 with
    | fs0 => exact ⟨_, _, rfl⟩
    | fs _ _ b off len cap vs hl => subst hl; exact ⟨_, _, rfl⟩
  obtain ⟨ad, cap, h2⟩ := h2
  rw [run_call_builtin hop]
  simp [builtin, Builtin.len_, h2, h0, run_underlying ht.und, goInt]

theorem does_len_arr {x : Operand} {ats : Array TypeId} {ty : Ty} {n e : Nat} (hti : TiOK P ti) (hop : o.op = .call ⟨.builtin .len, #[x], ats⟩) {t : Nat} (ht : ti t = some ty) (hk : ty.kd = .arr n e) (h0 : ats[0]? = some t) : Does P mem nx r o (.d (.it .i64 n)) := by
  obtain ⟨u, i, ht⟩ := tyOf_ok (hti _ _ ht)
  obtain rfl := arr_of ht hk
  refine .of_run rfl fun κ g a w hi ho => ⟨.int .i64 n, ?_, .d _ _ (.it _ _)⟩
  rw [run_call_builtin hop]
  simp [builtin, Builtin.len_, h0, run_underlying ht.und, goInt]

theorem does_min {x y : Operand} {ats : Array TypeId} {k l : IntKind} {a b : Int} (hop : o.op = .call ⟨.builtin .min, #[x, y], ats⟩) (hx : r x = some (.d (.it k a))) (hy : r y = some (.d (.it l b))) : Does P mem nx r o (.d (.it k (if b < a then b else a))) := by
  refine .of_run rfl fun κ g A w hi ho => ⟨_, ?_, .d _ _ (.it _ _)⟩
  have h1 := evalInt (ho x (by simp [hop, Op.operands, Call.operands]) _ hx)
  have h2 := evalInt (ho y (by simp [hop, Op.operands, Call.operands]) _ hy)
  rw [run_call_builtin hop]
  simp [builtin, Builtin.min_, h1, h2, Builtin.min2]

theorem does_max {x y : Operand} {ats : Array TypeId} {k l : IntKind} {a b : Int} (hop : o.op = .call ⟨.builtin .max, #[x, y], ats⟩) (hx : r x = some (.d (.it k a))) (hy : r y = some (.d (.it l b))) : Does P mem nx r o (.d (.it k (if b > a then b else a))) := by
  refine .of_run rfl fun κ g A w hi ho => ⟨_, ?_, .d _ _ (.it _ _)⟩
  have h1 := evalInt (ho x (by simp [hop, Op.operands, Call.operands]) _ hx)
  have h2 := evalInt (ho y (by simp [hop, Op.operands, Call.operands]) _ hy)
  rw [run_call_builtin hop]
  simp [builtin, Builtin.max_, h1, h2, Builtin.max2]

theorem argsP_ok {g : Gh} {a : Act} : ∀ {l : List Operand} {args : List AV}, argsP r l = some args → (∀ x ∈ l, ∀ v, r x = some v → AVR g v (a.eval x)) → args.length = l.length ∧ ∀ j (h : j < args.length) (h' : j < l.length), AVR g args[j] (a.eval l[j])
  | [], args, h, _ => by obtain rfl := Option.some.inj h; exact ⟨rfl, fun j h => by cases h⟩
  | x :: t, args, h, ho => by
    simp only [argsP] at h
    split at h
    · rename_i v l h1 h2
      obtain rfl := Option.some.inj h
      obtain ⟨i1, i2⟩ := argsP_ok (g := g) (a := a) h2 (fun x hx => ho x (List.mem_cons_of_mem _ hx))
      refine ⟨by simp [i1], fun j h h' => ?_⟩
      cases j with
      | zero =>
        cases hx : r x with
        | none => rw [hx] at h1; cases h1
        | some u => rw [hx] at h1; exact pure1_ok h1 (ho x List.mem_cons_self u hx)
      | succ j => exact i2 j (by simpa using h) (by simpa using h')
    · cases h

theorem does_call {f : Nat} {args : Array Operand} {ats : Array TypeId} {l : List AV} {v : AV} (hop : o.op = .call ⟨.value (.func f), args, ats⟩) (ha : argsP r args.toList = some l) (hf : FnC P f l v) (hmem : ∀ n ob, look n mem = some ob → n < nx ∧ ob.lt nx = true) : Does P mem nx r o v := by
  refine ⟨isP_lt hf.isP nx, fun κ g a w hi ho next Q hn => ?_⟩
  obtain ⟨a1, a2⟩ := argsP_ok (g := g) (a := a) ha (fun x hx v hv => ho x (by simp only [hop, Op.operands, Call.operands]; simp [hx]) v hv)
  have hexec : (execOp a.eval o).run P w = (callFunc f (args.map a.eval)).run P w := by
    simp only [execOp, hop, resolve, Act.eval, Deferred.ofValue, pure_bind, invoke]
    simp
  have fin : ∀ e w', (∃ v' g1, e = Ending.returned v' ∧ AVR g1 v v' ∧ (∀ b o v, g.F b o = some v → g1.F b o = some v) ∧
      (∀ b o v, g1.F b o = some v → g.F b o = some v ∨ w.heap.size ≤ b) ∧ (∀ b o v, g1.F b o = some v → w'.cell? ⟨b, o, none⟩ = some v) ∧
      w.heap.size ≤ w'.heap.size ∧ (∀ b, b < w.heap.size → w'.heap[b]? = w.heap[b]?) ∧ w'.os = w.os ∧ w'.tape = w.tape ∧ w'.output = w.output) → ∃ v', e = .returned v' ∧ next (a.put o.dst v') w' := by
    rintro e w' ⟨v', g1, rfl, q1, q2, q3, q4, q5, q6, q7, q8, q9⟩
    refine ⟨v', rfl, hn { g with F := g1.F } v' w' ⟨q2, fun _ _ => rfl, fun _ _ => rfl, fun _ _ => rfl, fun _ _ => rfl⟩ ?_ ?_⟩
    · exact hi.grow hmem ⟨q2, fun _ _ => rfl, fun _ _ => rfl, fun _ _ => rfl, fun _ _ => rfl⟩ q5 q6 q3 q4 q7 q8 q9
    · exact isP_mono (g := g1) (g' := { g with F := g1.F }) (fun _ _ _ h => h) hf.isP q1
  rcases hf.run g w (args.map a.eval) hi.frz (by simp [a1]) (fun j hj => by
    have h' : j < args.size := by simpa using (a1 ▸ hj : j < args.toList.length)
    have := a2 j hj (by simpa using h')
    simpa [Array.getD, h'] using this) with ⟨hrun, hc⟩ | ⟨v', w', hrun, hc⟩
  · exact wp_enter (hexec.trans hrun) (hc.mono fun e w' he => fin e w' he)
  · obtain ⟨v'', he, hn'⟩ := fin _ _ hc
    cases he
    exact wp_value (hexec.trans hrun) hn'

theorem optK_ok {v : Option AV} (h : optK v K) : ∃ u, v = some u ∧ K u := by
  cases v with
  | none => exact h.elim
  | some u => exact ⟨u, rfl, h⟩

theorem bif_ok {b : Bool} {p : Prop} (h : bif b then p else False) : b = true ∧ p := by
  cases b with
  | true => exact ⟨rfl, h⟩
  | false => exact h.elim

/-- **What evVal tells is so.** -/
theorem evVal_sound (hti : TiOK P ti) (hlt : ∀ x v, r x = some v → v.lt nx = true) (hmem : ∀ n ob, look n mem = some ob → n < nx ∧ ob.lt nx = true) (h : evVal P ti mem r o K) : ∃ v, K v ∧ Does P mem nx r o v := by
  unfold evVal at h
  split at h
  · rename_i x hop
    obtain ⟨v, hv, hK⟩ := optK_ok h
    exact ⟨v, hK, does_move (.inl hop) hv (hlt _ _ hv)⟩
  · rename_i x hop
    obtain ⟨v, hv, hK⟩ := optK_ok h
    exact ⟨v, hK, does_move (.inr hop) hv (hlt _ _ hv)⟩
  · rename_i c x y hop
    split at h
    · rename_i t hc
      cases t with
      | true =>
        obtain ⟨v, hv, hK⟩ := optK_ok (h.t rfl)
        exact ⟨v, hK, does_pick hop hc (by simpa using hv) (hlt _ _ hv)⟩
      | false =>
        obtain ⟨v, hv, hK⟩ := optK_ok (h.f rfl)
        exact ⟨v, hK, does_pick hop hc (by simpa using hv) (hlt _ _ hv)⟩
    · exact h.elim
  · rename_i x hop
    split at h
    · rename_i n off hx; exact ⟨_, h, does_nilCheck hop hx (hlt _ _ hx) (.inl ⟨_, _, rfl⟩)⟩
    · rename_i k cs hx; exact ⟨_, h, does_nilCheck hop hx (hlt _ _ hx) (.inr ⟨_, _, rfl⟩)⟩
    · exact h.elim
  · rename_i t x hop
    split at h
    · rename_i ty k cs ht hx
      obtain ⟨hb, hK⟩ := bif_ok h
      simp only [Bool.and_eq_true, Nat.blt_eq] at hb
      exact ⟨_, hK, does_load_fp hop (hti _ _ ht) hx (Nat.le_of_ble_eq_true hb.1) hb.2⟩
    · rename_i ty n off ht hx
      split at h
      · rename_i size c hm
        obtain ⟨hb, hK⟩ := bif_ok h
        simp only [Bool.and_eq_true, Nat.blt_eq] at hb
        replace hK : K (ldA ty off c) := by
          cases hq : Nat.ble 17 size with
          | true => rw [hq] at hK; exact hK.run
          | false => rw [hq] at hK; exact hK
        refine ⟨_, hK, does_load_ptr hop (hti _ _ ht) hx hm (Nat.le_of_ble_eq_true hb.1) hb.2 ?_⟩
        have := (hmem _ _ hm).2
        simp only [Ob.lt, List.all_eq_true] at this
        exact this
      · exact h.elim
    · exact h.elim
  · rename_i t x f hop
    split at h
    · rename_i fs sz by' z cmp pl p ht hx
      split at h
      · rename_i fo fsz hf
        obtain ⟨hb, h⟩ := bif_ok h
        simp only [Nat.blt_eq] at hb
        split at h
        · rename_i n off
          exact ⟨_, h, does_fieldAddr hti hop (hti _ _ ht) rfl hf hb hx (.inl ⟨_, _, rfl, rfl, by have := hlt _ _ hx; simpa [AV.lt, AV.lt2, AV.lt1, AV.lt0] using this⟩)⟩
        · rename_i k cs
          obtain ⟨hb', hK⟩ := bif_ok h
          exact ⟨_, hK, does_fieldAddr hti hop (hti _ _ ht) rfl hf hb hx (.inr (.inl ⟨_, _, rfl, rfl, Nat.le_of_ble_eq_true hb'⟩))⟩
        · exact h.elim
      · exact h.elim
    · exact h.elim
  · rename_i t x f hop
    split at h
    · rename_i fs sz by' z cmp pl p ht hx
      split at h
      · rename_i fo ft hf
        split at h
        · rename_i fty hft
          split at h
          · rename_i k cs
            obtain ⟨hb, hK⟩ := bif_ok h
            simp only [Bool.and_eq_true, Nat.blt_eq] at hb
            exact ⟨_, hK, does_field_d hti hop (hti _ _ ht) rfl hf hft hx (Nat.le_of_ble_eq_true hb.1) hb.2⟩
          · rename_i k cs
            obtain ⟨hb, hK⟩ := bif_ok h
            simp only [Bool.and_eq_true, Nat.blt_eq] at hb
            exact ⟨_, hK, does_field_a hti hop (hti _ _ ht) rfl hf hft hx (hlt _ _ hx) (Nat.le_of_ble_eq_true hb.1) hb.2⟩
          · exact h.elim
        · exact h.elim
      · exact h.elim
    · exact h.elim
  · rename_i t x i hop
    split at h
    · rename_i e sz0 by' z cmp pl v k n ht hx hi
      split at h
      · rename_i sz es ety hv he
        obtain ⟨hb, hn, h⟩ := bif_ok h
        have hl : n.toNat < es.length := by omega
        exact ⟨_, h _ (List.getElem?_eq_getElem hl), does_indexAddr_slice hti hop (hti _ _ ht) rfl he hx hv hi (Nat.eq_of_beq_eq_true hb) hn (List.getElem?_eq_getElem hl)⟩
      · exact h.elim
    · rename_i len e sz0 by' z cmp pl k cs kk n ht hx hi
      split at h
      · rename_i ety he
        obtain ⟨hb, hn, hK⟩ := bif_ok h
        simp only [Bool.and_eq_true, Nat.blt_eq] at hb
        exact ⟨_, hK, does_indexAddr_arr hti hop (hti _ _ ht) rfl he hx hi (Nat.le_of_ble_eq_true hb.1) hn⟩
      · exact h.elim
    · exact h.elim
  · rename_i t x i hop
    split at h
    · rename_i sz0 by' z cmp pl l k n ht hx hi
      obtain ⟨hn, h⟩ := h
      have hl : n.toNat < l.length := by omega
      exact ⟨_, h _ (List.getElem?_eq_getElem hl), does_index_str hop (hti _ _ ht) rfl hx hi hn (List.getElem?_eq_getElem hl)⟩
    · rename_i len e sz0 by' z cmp pl k cs kk n ht hx hi
      split at h
      · rename_i ety he
        obtain ⟨hb, hn, hK⟩ := bif_ok h
        simp only [Bool.and_eq_true, Nat.blt_eq] at hb
        exact ⟨_, hK, does_index_arr hti hop (hti _ _ ht) rfl he hx hi (Nat.le_of_ble_eq_true hb.1) hb.2 hn⟩
      · exact h.elim
    · exact h.elim
  · rename_i t x lo hi mx hop
    split at h
    · rename_i sz0 by' z cmp pl l ht hx
      split at h
      · rename_i lo hi
        split at h
        · rename_i i j hlo hhi
          obtain ⟨⟨c1, c2, c3⟩, hK⟩ := h
          exact ⟨_, hK, does_slice_str (i := some i) (j := some j) hop (hti _ _ ht) rfl hx hlo hhi (fun x hx => by cases hx; exact c1) (fun x hx => by cases hx; omega) (by simp; omega) (by simp; omega)⟩
        · exact h.elim
      · rename_i lo
        split at h
        · rename_i i hlo
          obtain ⟨⟨c1, c2⟩, hK⟩ := h
          have := does_slice_str (P := P) (mem := mem) (nx := nx) (i := some i) (j := none) hop (hti _ _ ht) rfl hx hlo trivial (fun x hx => by cases hx; exact c1) (fun x hx => by cases hx) (by simp; omega) (by simp)
          simp only [Option.map, Option.getD, List.take_length] at this
          exact ⟨_, hK, this⟩
        · exact h.elim
      · rename_i hi
        split at h
        · rename_i j hhi
          obtain ⟨⟨c1, c2⟩, hK⟩ := h
          exact ⟨_, hK, does_slice_str (i := none) (j := some j) hop (hti _ _ ht) rfl hx trivial hhi (fun x hx => by cases hx) (fun x hx => by cases hx; exact c1) (by simp) (by simp; omega)⟩
        · exact h.elim
      · exact h.elim
    · rename_i e sz0 by' z cmp pl v ht hx
      split at h
      · rename_i sz es ety hv he
        obtain ⟨hb, h⟩ := bif_ok h
        have hsz := Nat.eq_of_beq_eq_true hb
        split at h
        · rename_i lo hi
          split at h
          · rename_i i j hlo hhi
            obtain ⟨⟨c1, c2, c3⟩, hK⟩ := h
            exact ⟨_, hK, does_slice_slice (i := some i) (j := some j) (m := none) hti hop (hti _ _ ht) rfl he hx hv hsz hlo hhi trivial (by simp) (fun x hx => by cases hx; exact c1) (fun x hx => by cases hx; omega) (fun x hx => by cases hx) (by simp; omega) (by simp; omega)⟩
          · exact h.elim
        · rename_i lo
          split at h
          · rename_i i hlo
            obtain ⟨⟨c1, c2⟩, hK⟩ := h
            have := does_slice_slice (P := P) (mem := mem) (nx := nx) (i := some i) (j := none) (m := none) hti hop (hti _ _ ht) rfl he hx hv hsz hlo trivial trivial (by simp) (fun x hx => by cases hx; exact c1) (fun x hx => by cases hx) (fun x hx => by cases hx) (by simp; omega) (by simp)
            simp only [Option.map, Option.getD, List.take_length, Option.isSome, Bool.false_eq_true, if_false] at this
            exact ⟨_, hK, this⟩
          · exact h.elim
        · rename_i hi
          split at h
          · rename_i j hhi
            obtain ⟨⟨c1, c2⟩, hK⟩ := h
            exact ⟨_, hK, does_slice_slice (i := none) (j := some j) (m := none) hti hop (hti _ _ ht) rfl he hx hv hsz trivial hhi trivial (by simp) (fun x hx => by cases hx) (fun x hx => by cases hx; exact c1) (fun x hx => by cases hx) (by simp) (by simp; omega)⟩
          · exact h.elim
        · rename_i hi mx
          split at h
          · rename_i j m hhi hmx
            obtain ⟨⟨c1, c2, rfl⟩, hK⟩ := h
            exact ⟨_, hK, does_slice_slice (i := none) (j := some m) (m := some m) hti hop (hti _ _ ht) rfl he hx hv hsz trivial hhi hmx (by simp) (fun x hx => by cases hx) (fun x hx => by cases hx; exact c1) (fun x hx => by cases hx; exact ⟨c1, c2, rfl⟩) (by simp) (by simp; omega)⟩
          · exact h.elim
        · exact h.elim
      · exact h.elim
    · exact h.elim
  · rename_i op t x y t' hop
    split at h
    · rename_i u v hx hy
      obtain ⟨z, hK, hd⟩ := does_binOp hti hop hx hy h
      exact ⟨_, hK, hd⟩
    · exact h.elim
  · rename_i t x hop
    split at h
    · rename_i b hx; exact ⟨_, h, does_not hop hx⟩
    · exact h.elim
  · rename_i t x hop
    split at h
    · rename_i k n hx; exact ⟨_, h.run, does_neg hop hx⟩
    · exact h.elim
  · rename_i s t x hop
    split at h
    · rename_i hs ht hx; exact ⟨_, h.run, does_conv_int hti hop hs rfl ht rfl hx⟩
    · rename_i hs ht hx; exact ⟨_, h, does_conv_str hti hop hs rfl ht rfl hx⟩
    · rename_i hs ht hx
      split at h
      · rename_i sz es _ _ _ _ hv he
        obtain ⟨hb, l, hl, hK⟩ := bif_ok h
        obtain rfl := Nat.eq_of_beq_eq_true hb
        exact ⟨_, hK, does_conv_bytes hti hop hs rfl ht rfl he rfl hx hv hl⟩
      · exact h.elim
    · rename_i hs ht hx
      split at h
      · rename_i he
        exact ⟨_, h, does_conv_to_bytes hti hop hs rfl ht rfl he rfl hx hmem⟩
      · exact h.elim
    · exact h.elim
  · rename_i x i hop
    split at h
    · rename_i vs hx
      obtain ⟨v, hv, hK⟩ := optK_ok h
      exact ⟨v, hK, does_extract hop hx (hlt _ _ hx) hv⟩
    · exact h.elim
  · rename_i t parts hop
    split at h
    · rename_i ty ps pa ht hp hpa
      obtain ⟨hb, h⟩ := bif_ok h
      simp only [Bool.and_eq_true, Nat.blt_eq] at hb
      have hz := Nat.eq_of_beq_eq_true hb.1
      split at h
      · rename_i fs hk
        obtain ⟨hpl, h⟩ := bif_ok h
        cases hany : ty.zero.any D.isFs with
        | true =>
          rw [hany] at h
          simp only [cond_true] at h
          split at h
          · rename_i l hf
            exact ⟨_, h, does_build_structA hti hop ht hk hpa hlt hz hb.2 hpl hf⟩
          · exact h.elim
        | false =>
          rw [hany] at h
          simp only [cond_false] at h
          split at h
          · rename_i l hf
            exact ⟨_, h, does_build_struct hti hop ht hk hp hz hb.2 hpl hf⟩
          · exact h.elim
      · rename_i n e hk
        split at h
        · rename_i ety he
          split at h
          · rename_i l hf
            obtain ⟨hpl, hK⟩ := bif_ok h
            exact ⟨_, hK, does_build_arr hti hop ht hk he hp hz hb.2 hpl hf⟩
          · exact h.elim
        · exact h.elim
      · exact h.elim
    · exact h.elim
  · rename_i t n parts hop
    split at h
    · rename_i e _ _ _ _ _ ps ht hp
      split at h
      · rename_i ety he
        obtain ⟨hb, h⟩ := bif_ok h
        simp only [Bool.and_eq_true, Nat.blt_eq] at hb
        split at h
        · rename_i l hf
          exact ⟨_, h, does_buildSlice hti hop ht rfl he hp (Nat.eq_of_beq_eq_true hb.1.1) hb.1.2 (Nat.le_of_ble_eq_true hb.2.1) hb.2.2 hf hmem⟩
        · exact h.elim
      · exact h.elim
    · exact h.elim
  · rename_i c hop
    obtain ⟨callee, args, ats⟩ := c
    have hargs : ∀ l, args.toList = l → args = l.toArray := fun l hl => by rw [← hl]
    split at h
    · rename_i x hc hl
      simp only at hc hl
      subst hc
      obtain rfl := hargs _ hl
      have get : ∀ {ty : Ty}, (ats[0]?.bind ti) = some ty → ∃ t, ats[0]? = some t ∧ ti t = some ty := fun {ty} hb => by
        cases hq : ats[0]? with
        | none => rw [hq] at hb; cases hb
        | some t => rw [hq] at hb; exact ⟨t, rfl, hb⟩
      split at h
      · rename_i l _ _ _ _ _ hx ht
        obtain ⟨t, h0, ht⟩ := get ht
        exact ⟨_, h, does_len_str hti hop ht rfl h0 hx⟩
      · rename_i v e _ _ _ _ _ hx ht
        obtain ⟨t, h0, ht⟩ := get ht
        split at h
        · rename_i sz es hv
          exact ⟨_, h, does_len_slice hti hop ht rfl h0 hx hv⟩
        · exact h.elim
      · rename_i n e _ _ _ _ _ ht
        obtain ⟨t, h0, ht⟩ := get ht
        exact ⟨_, h, does_len_arr hti hop ht rfl h0⟩
      · exact h.elim
    · rename_i x y hc hl
      simp only at hc hl
      subst hc
      obtain rfl := hargs _ hl
      split at h
      · rename_i hx hy; exact ⟨_, h.run, does_min hop hx hy⟩
      · exact h.elim
    · rename_i x y hc hl
      simp only at hc hl
      subst hc
      obtain rfl := hargs _ hl
      split at h
      · rename_i hx hy; exact ⟨_, h.run, does_max hop hx hy⟩
      · exact h.elim
    · rename_i cc ll f hc
      simp only at hc
      subst hc
      split at h
      · rename_i args' ha
        obtain ⟨v, hf, hK⟩ := h.run
        exact ⟨v, hK, does_call hop ha hf hmem⟩
      · exact h.elim
    · exact h.elim
  · exact h.elim
end
end Go.Sy

/- The operations on variables of many cells that are not frozen: addresses, slices, bytes read. Conditions: none. -/
namespace Go.Sy
set_option linter.unusedVariables false
set_option linter.unusedSimpArgs false

def u8A (b : UInt8) : AV := .d (.it .u8 b.toNat)

def oInt (r : Operand → Option AV) : Option Operand → Option (Option Int)
  | none => some none
  | some x => match r x with
    | some (.d (.it .i64 n)) => some (some n)
    | _ => none

/-- A part of what is open. -/
def sliM (sz n off len cap : Nat) (lo hi : Option Int) (K : AV → Prop) : Prop :=
  match lo, hi with
  | none, none => K (.ms sz n off len cap)
  | none, some h => (0 ≤ h ∧ h ≤ cap) ∧ LetN h.toNat fun a => K (.ms sz n off a cap)
  | some l, none => (0 ≤ l ∧ l ≤ len) ∧ LetN (off + l.toNat * sz) fun z => LetN (len - l.toNat) fun a => LetN (cap - l.toNat) fun b => K (.ms sz n z a b)
  | some l, some h => (0 ≤ l ∧ l ≤ h ∧ h ≤ cap) ∧ LetN (off + l.toNat * sz) fun z => LetN (h.toNat - l.toNat) fun a => LetN (cap - l.toNat) fun b => K (.ms sz n z a b)

def sliV (sz n i len lim : Nat) (lo hi : Option Int) (K : AV → Prop) : Prop :=
  match lo, hi with
  | none, none => K (.vx sz n i len)
  | none, some h => (0 ≤ h ∧ h ≤ lim) ∧ LetN h.toNat fun a => K (.vx sz n i a)
  | some l, none => (0 ≤ l ∧ l ≤ len) ∧ LetN (i + l.toNat) fun z => LetN (len - l.toNat) fun a => K (.vx sz n z a)
  | some l, some h => (0 ≤ l ∧ l ≤ h ∧ h ≤ lim) ∧ LetN (i + l.toNat) fun z => LetN (h.toNat - l.toNat) fun a => K (.vx sz n z a)

def evValM (ti : Nat → Option Ty) (mem : List (Nat × Ob)) (r : Operand → Option AV) (o : Oper) (K : AV → Prop) : Option Prop :=
  match o.op with
  | .indexAddr t x i => match r x with
    | some (.ms _ n off len cap) => some (match ti t, r i with
      | some ⟨.slice e, _, _, _, _, _⟩, some (.d (.it _ j)) => match ti e with
        | some ety => (0 ≤ j ∧ j < len) ∧ LetN (off + j.toNat * ety.size) fun z => K (.ptr n z)
        | none => False
      | _, _ => False)
    | some (.ptr n off) => some (match ti t, r i with
      | some ⟨.arr len e, _, _, _, _, _⟩, some (.d (.it _ j)) => match ti e with
        | some ety => (0 ≤ j ∧ j < len) ∧ LetN (off + j.toNat * ety.size) fun z => K (.ptr n z)
        | none => False
      | _, _ => False)
    | some (.vx sz n i0 len) => some (match ti t, r i, look n mem with
      | some ⟨.slice e, _, _, _, _, _⟩, some (.d (.it _ j)), some (.vec _ sz' es _) => match ti e with
        | some ety => bif Nat.beq sz ety.size && Nat.beq sz' sz then (0 ≤ j ∧ j < len ∧ i0 + len ≤ es.length) ∧ LetN (i0 + j.toNat) fun z => K (.vq sz n z 0) else False
        | none => False
      | _, _, _ => False)
    | _ => none
  | .fieldAddr t x f => match r x with
    | some (.vq sz n k off) => some (match ti t with
      | some ⟨.struct fs, _, _, _, _, _⟩ => match placeOf ti fs f with
        | some (fo, fsz) => bif Nat.blt 0 fsz then K (.vq sz n k (off + fo)) else False
        | none => False
      | _ => False)
    | _ => none
  | .load t x => match r x with
    | some (.vq sz n k off) => some (match ti t, look n mem with
      | some ty, some (.vec _ sz' es _) => bif Nat.beq sz' sz && Nat.ble (off + ty.size) sz && Nat.blt off sz then k < es.length ∧ ∀ c, es[k]? = some c → K (ldD ty (c.drop off)) else False
      | _, _ => False)
    | _ => none
  | .slice t x lo hi none => match r x with
    | some (.ms _ n off len cap) => some (match ti t, oInt r lo, oInt r hi with
      | some ⟨.slice e, _, _, _, _, _⟩, some lo, some hi => match ti e with
        | some ety => len ≤ cap ∧ sliM ety.size n off len cap lo hi K
        | none => False
      | _, _, _ => False)
    | some (.ptr n off) => some (match ti t, oInt r lo, oInt r hi with
      | some ⟨.arr len e, _, _, _, _, _⟩, some lo, some hi => match ti e with
        | some ety => sliM ety.size n off len len lo hi K
        | none => False
      | _, _, _ => False)
    | some (.vx sz n i len) => some (match ti t, oInt r lo, oInt r hi, look n mem with
      | some ⟨.slice e, _, _, _, _, _⟩, some lo, some hi, some (.vec _ sz' es _) => match ti e with
        | some ety => bif Nat.beq sz ety.size && Nat.beq sz' sz && Nat.blt 0 sz then sliV sz n i len (es.length - i) lo hi K else False
        | none => False
      | _, _, _, _ => False)
    | _ => none
  | .convert s t x => match r x with
    | some (.ms _ n off len cap) => some (match ti s, ti t, look n mem with
      | some ⟨.slice e, _, _, _, _, _⟩, some ⟨.string, _, _, _, _, _⟩, some (.cells size c) => match ti e with
        | some ⟨.int .u8, 1, _, _, _, _⟩ => ∃ l, (off + len ≤ size ∧ (c.drop off).take len = l.map u8A) ∧ K (.d (.st l))
        | _ => False
      | _, _, _ => False)
    | some (.ptr n off) => some (match ti s, ti t, look n mem with
      | some ⟨.ptr e, _, _, _, _, _⟩, some ⟨.usafe, _, _, _, _, _⟩, some (.cells size _) => match ti e with
        | some ety => bif Nat.blt 0 ety.size && Nat.blt off size then K (.ptr n off) else False
        | none => False
      | some ⟨.usafe, _, _, _, _, _⟩, some ⟨.ptr e, _, _, _, _, _⟩, some (.cells size _) => match look (n + 1) mem, ti e with
        | some (.tag m t'), some ety => bif Nat.beq m n && Nat.beq t' e && (Nat.beq off 0 && Nat.ble ety.size size && Nat.blt 0 ety.size) then K (.ptr n off) else False
        | _, _ => False
      | _, _, _ => False)
    | _ => none
  | .binOp op t x y _ => match op, r x, r y, ti t with
    | .eql, some (.ptr n a), some (.ptr m b), some ⟨.ptr e, _, _, _, _, _⟩ => some (bif Nat.beq n m && Nat.beq a b && (ti e).isSome then K (.d (.bl true)) else False)
    | .neq, some (.ptr n a), some (.ptr m b), some ⟨.ptr e, _, _, _, _, _⟩ => some (bif Nat.beq n m && Nat.beq a b && (ti e).isSome then K (.d (.bl false)) else False)
    | .eql, some (.ptr _ _), some (.d (.ot (.pointer none))), some ⟨.ptr _, _, _, _, _, _⟩ => some (K (.d (.bl false)))
    | .neq, some (.ptr _ _), some (.d (.ot (.pointer none))), some ⟨.ptr _, _, _, _, _, _⟩ => some (K (.d (.bl true)))
    | .eql, some (.d (.ot (.pointer none))), some (.d (.ot (.pointer none))), some ⟨.ptr _, _, _, _, _, _⟩ => some (K (.d (.bl true)))
    | .neq, some (.d (.ot (.pointer none))), some (.d (.ot (.pointer none))), some ⟨.ptr _, _, _, _, _, _⟩ => some (K (.d (.bl false)))
    | _, _, _, _ => none
  | .call ⟨.builtin .unsafeSliceData, args, _⟩ => match args.toList with
    | [x] => match r x with
      | some (.ts sz es n) => some (match look n mem with
        | some (.tail _ b) => bif b && Nat.beq sz 1 then K (.sd es n) else False
        | _ => False)
      | some (.nl _) => some (K (.d (.ot (.pointer none))))
      | _ => none
    | _ => none
  | .makeFunc fn first caps => match argsA r first.toList, argsA r caps.toList with
    | some f, some c => bif f.all AV.flat && c.all AV.flat then some (K (.fn fn f c)) else none
    | _, _ => none
  | .call ⟨.builtin .len, args, ats⟩ => match args.toList with
    | [x] => match r x, ats[0]?.bind ti with
      | some (.ms _ _ _ len _), some ⟨.slice _, _, _, _, _, _⟩ => some (K (.d (.it .i64 len)))
      | some (.vx _ _ _ len), some ⟨.slice _, _, _, _, _, _⟩ => some (K (.d (.it .i64 len)))
      | _, _ => none
    | _ => none
  | _ => none

def evV (P : Program) (ti : Nat → Option Ty) (mem : List (Nat × Ob)) (r : Operand → Option AV) (o : Oper) (K : AV → Prop) : Prop :=
  match evValM ti mem r o K with
  | some p => p
  | none => evVal P ti mem r o K

section
variable {P : Program} {ti : Nat → Option Ty} {mem : List (Nat × Ob)} {nx : Nat} {r : Operand → Option AV} {o : Oper} {K : AV → Prop}

theorem lt_ms {m sz n off len cap : Nat} (h : n < m) : (AV.ms sz n off len cap).lt m = true := by simp [AV.lt, AV.lt2, AV.lt1, AV.lt0, h]
theorem lt_ptr {m n off : Nat} (h : n < m) : (AV.ptr n off).lt m = true := by simp [AV.lt, AV.lt2, AV.lt1, AV.lt0, h]
theorem of_lt_ms {m sz n off len cap : Nat} (h : (AV.ms sz n off len cap).lt m = true) : n < m := by simpa [AV.lt, AV.lt2, AV.lt1, AV.lt0] using h
theorem of_lt_ptr {m n off : Nat} (h : (AV.ptr n off).lt m = true) : n < m := by simpa [AV.lt, AV.lt2, AV.lt1, AV.lt0] using h

theorem does_indexAddr_ms {t e : Nat} {x y : Operand} {ty ety : Ty} {zz n off len cap : Nat} {k : IntKind} {j : Int} (hti : TiOK P ti) (hop : o.op = .indexAddr t x y) (ht : tyOf P t = some ty) (hk : ty.kd = .slice e) (he : ti e = some ety)
    (hx : r x = some (.ms zz n off len cap)) (hy : r y = some (.d (.it k j))) (hn : 0 ≤ j ∧ j < len) (hl : n < nx) : Does P mem nx r o (.ptr n (off + j.toNat * ety.size)) := by
  obtain ⟨u, i, ht⟩ := tyOf_ok ht
  obtain ⟨ue, ie, het⟩ := tyOf_ok (hti _ _ he)
  obtain rfl := slice_of ht hk
  refine .of_run (lt_ptr hl) fun κ g a w hi ho => ?_
  have h1 := ho x (by simp [hop, Op.operands]) _ hx
  have h2 := evalInt (ho y (by simp [hop, Op.operands]) _ hy)
  generalize ha : a.eval x = q at h1
  cases h1 with | ms _ _ _ _ _ ad had hc => ?_
  have hcap : 0 < cap := by omega
  obtain rfl := had hcap
  refine ⟨_, ?_, .ptr _ _⟩
  have hcond : (0 : Int) ≤ j ∧ j < (len : Int) := hn
  simp only [execOp, hop, ha, h2, Instr.indexAt, asIntOf, Sem.run_bind, Sem.run_pure, Result.andThen_ok, run_underlying ht.und, Sem.run_ite]
  rw [if_pos hcond]
  simp only [Sem.run_bind, run_sizeOf' het.info, Result.andThen_ok, Sem.run_pure, addr_add, het.size]

theorem does_indexAddr_arrM {t e len : Nat} {x y : Operand} {ty ety : Ty} {n off : Nat} {k : IntKind} {j : Int} (hti : TiOK P ti) (hop : o.op = .indexAddr t x y) (ht : tyOf P t = some ty) (hk : ty.kd = .arr len e) (he : ti e = some ety)
    (hx : r x = some (.ptr n off)) (hy : r y = some (.d (.it k j))) (hn : 0 ≤ j ∧ j < len) (hl : n < nx) : Does P mem nx r o (.ptr n (off + j.toNat * ety.size)) := by
  obtain ⟨u, i, ht⟩ := tyOf_ok ht
  obtain ⟨ue, ie, het⟩ := tyOf_ok (hti _ _ he)
  obtain rfl := arr_of ht hk
  refine .of_run (lt_ptr hl) fun κ g a w hi ho => ?_
  have h1 := ho x (by simp [hop, Op.operands]) _ hx
  have h2 := evalInt (ho y (by simp [hop, Op.operands]) _ hy)
  generalize ha : a.eval x = q at h1
  cases h1 with | ptr => ?_
  refine ⟨_, ?_, .ptr _ _⟩
  have hcond : (0 : Int) ≤ j ∧ j < (len : Int) := hn
  simp only [execOp, hop, ha, h2, Instr.indexAt, asIntOf, Instr.sureAddr, Sem.run_bind, Sem.run_pure, Result.andThen_ok, run_underlying ht.und, Sem.run_ite]
  rw [if_pos hcond]
  simp only [Sem.run_bind, run_sizeOf' het.info, Result.andThen_ok, Sem.run_pure, addr_add, het.size]

theorem oInt_ok {g : Gh} {a : Act} {x : Option Operand} {i : Option Int} (h : oInt r x = some i) (hm : ∀ y, x = some y → y ∈ o.op.operands.toList) (ho : ∀ x ∈ o.op.operands.toList, ∀ v, r x = some v → AVR g v (a.eval x)) : x.map a.eval = i.map (.int .i64) := by
  cases x with
  | none => obtain rfl := Option.some.inj h; rfl
  | some x =>
    simp only [oInt] at h
    split at h
    · rename_i n hn
      obtain rfl := Option.some.inj h
      simp only [Option.map, Option.some.injEq]
      exact evalInt (ho _ (hm _ rfl) _ hn)
    · cases h

/-- What sliM tells of the bounds, and the value. -/
theorem sliM_ok {sz n off len cap : Nat} {lo hi : Option Int} (hc : len ≤ cap) (h : sliM sz n off len cap lo hi K) : (∀ x, lo = some x → 0 ≤ x) ∧ (∀ x, hi = some x → 0 ≤ x) ∧ (bds len cap lo hi none).1 ≤ (bds len cap lo hi none).2.1 ∧ (bds len cap lo hi none).2.1 ≤ cap ∧
    ∃ v, K v ∧ v = .ms sz n (off + (bds len cap lo hi none).1 * sz) ((bds len cap lo hi none).2.1 - (bds len cap lo hi none).1) (cap - (bds len cap lo hi none).1) := by
  cases lo with
  | none =>
    cases hi with
    | none => exact ⟨(fun _ h => by cases h), (fun _ h => by cases h), Nat.zero_le _, hc, _, h, by simp [bds]⟩
    | some j =>
      obtain ⟨h1, h⟩ := h
      exact ⟨(fun _ h => by cases h), (fun x h => by cases h; exact h1.1), Nat.zero_le _, (by simp [bds]; omega), _, h.run, by simp [bds]⟩
  | some i =>
    cases hi with
    | none =>
      obtain ⟨h1, h⟩ := h
      exact ⟨(fun x h => by cases h; exact h1.1), (fun _ h => by cases h), (by simp [bds]; omega), (by simp [bds]; omega), _, h.run.run.run, by simp [bds]⟩
    | some j =>
      obtain ⟨h1, h⟩ := h
      exact ⟨(fun x h => by cases h; exact h1.1), (fun x h => by cases h; omega), (by simp [bds]; omega), (by simp [bds]; omega), _, h.run.run.run, by simp [bds]⟩

theorem does_slice_ms {t e : Nat} {x : Operand} {lo hi : Option Operand} {i j : Option Int} {ty ety : Ty} {zz n off len cap : Nat} (hti : TiOK P ti) (hop : o.op = .slice t x lo hi none) (ht : tyOf P t = some ty) (hk : ty.kd = .slice e) (he : ti e = some ety)
    (hx : r x = some (.ms zz n off len cap)) (h1 : oInt r lo = some i) (h2 : oInt r hi = some j) (hl : n < nx) (hs : sliM ety.size n off len cap i j K) (hcap : len ≤ cap) : ∃ v, K v ∧ Does P mem nx r o v := by
  obtain ⟨u, inf, ht⟩ := tyOf_ok ht
  obtain ⟨ue, ie, het⟩ := tyOf_ok (hti _ _ he)
  obtain rfl := slice_of ht hk
  obtain ⟨c1, c2, c3, c4, v, hK, rfl⟩ := sliM_ok hcap hs
  refine ⟨_, hK, .of_run (lt_ms hl) fun κ g a w hi' ho => ?_⟩
  have e1 := oInt_ok (o := o) (g := g) (a := a) h1 (fun y hy => by subst hy; simp [hop, Op.operands]) ho
  have e2 := oInt_ok (o := o) (g := g) (a := a) h2 (fun y hy => by subst hy; simp [hop, Op.operands]) ho
  have hxv := ho x (by simp [hop, Op.operands]) _ hx
  generalize ha : a.eval x = q at hxv
  cases hxv with | ms _ _ _ _ _ ad had _ => ?_
  have hrun := run_bounds (P := P) true len cap (lo.map a.eval) (hi.map a.eval) none i j none e1 e2 rfl (by simp) hcap c1 c2 (by simp) c3 c4 (Nat.le_refl _) w
  refine ⟨.slice (if (bds len cap i j none).2.2 = (bds len cap i j none).1 then ad else ad.map (·.add ((bds len cap i j none).1 * ety.size))) ((bds len cap i j none).2.1 - (bds len cap i j none).1) (cap - (bds len cap i j none).1), ?_, .ms _ _ _ _ _ _ (fun h => ?_) (by omega)⟩
  · have e3 : (bds len cap i j none).2.2 = cap := rfl
    simp only [execOp, hop, ha, Instr.sliceAt, Sem.run_bind, Sem.run_pure, Result.andThen_ok, run_underlying ht.und, Instr.slice, Option.map_none, hrun, run_sizeOf' het.info, het.size, e3]
  · have e3 : (bds len cap i j none).2.2 = cap := rfl
    rw [e3, if_neg (by omega), had (by omega)]
    simp only [Option.map, addr_add]

theorem does_slice_arrM {t e len : Nat} {x : Operand} {lo hi : Option Operand} {i j : Option Int} {ty ety : Ty} {n off : Nat} (hti : TiOK P ti) (hop : o.op = .slice t x lo hi none) (ht : tyOf P t = some ty) (hk : ty.kd = .arr len e) (he : ti e = some ety)
    (hx : r x = some (.ptr n off)) (h1 : oInt r lo = some i) (h2 : oInt r hi = some j) (hl : n < nx) (hs : sliM ety.size n off len len i j K) : ∃ v, K v ∧ Does P mem nx r o v := by
  obtain ⟨u, inf, ht⟩ := tyOf_ok ht
  obtain ⟨ue, ie, het⟩ := tyOf_ok (hti _ _ he)
  obtain rfl := arr_of ht hk
  obtain ⟨c1, c2, c3, c4, v, hK, rfl⟩ := sliM_ok (Nat.le_refl _) hs
  refine ⟨_, hK, .of_run (lt_ms hl) fun κ g a w hi' ho => ?_⟩
  have e1 := oInt_ok (o := o) (g := g) (a := a) h1 (fun y hy => by subst hy; simp [hop, Op.operands]) ho
  have e2 := oInt_ok (o := o) (g := g) (a := a) h2 (fun y hy => by subst hy; simp [hop, Op.operands]) ho
  have hxv := ho x (by simp [hop, Op.operands]) _ hx
  generalize ha : a.eval x = q at hxv
  cases hxv with | ptr => ?_
  have hrun := run_bounds (P := P) false len len (lo.map a.eval) (hi.map a.eval) none i j none e1 e2 rfl (by simp) (Nat.le_refl _) c1 c2 (by simp) c3 c4 (Nat.le_refl _) w
  refine ⟨.slice (some (if (bds len len i j none).2.2 = (bds len len i j none).1 then ⟨g.blk n, off, none⟩ else (⟨g.blk n, off, none⟩ : Addr).add ((bds len len i j none).1 * ety.size))) ((bds len len i j none).2.1 - (bds len len i j none).1) (len - (bds len len i j none).1), ?_, .ms _ _ _ _ _ _ (fun h => ?_) (by omega)⟩
  · have e3 : (bds len len i j none).2.2 = len := rfl
    simp only [execOp, hop, ha, Instr.sliceAt, Instr.sureAddr, Sem.run_bind, Sem.run_pure, Result.andThen_ok, run_underlying ht.und, Option.map_none, hrun, run_sizeOf' het.info, het.size, e3]
  · have e3 : (bds len len i j none).2.2 = len := rfl
    rw [e3, if_neg (by omega), addr_add]

theorem does_conv_ms {s t e : Nat} {x : Operand} {sty ty ety : Ty} {zz n off len cap size : Nat} {c : List AV} {l : List UInt8} (hti : TiOK P ti) (hop : o.op = .convert s t x) (hs : ti s = some sty) (hsk : sty.kd = .slice e) (ht : ti t = some ty) (hk : ty.kd = .string) (he : ti e = some ety) (hek : ety.kd = .int .u8)
    (hx : r x = some (.ms zz n off len cap)) (hm : look n mem = some (.cells size c)) (hle : off + len ≤ size) (hl : (c.drop off).take len = l.map u8A) : Does P mem nx r o (.d (.st l)) := by
  obtain ⟨u, i, hs⟩ := tyOf_ok (hti _ _ hs)
  obtain ⟨u', i', ht⟩ := tyOf_ok (hti _ _ ht)
  obtain ⟨u'', i'', he⟩ := tyOf_ok (hti _ _ he)
  obtain rfl := slice_of hs hsk
  obtain rfl := string_of ht hk
  obtain rfl := int_of he hek
  refine .of_run rfl fun κ g A W hi ho => ?_
  have h1 := ho x (by simp [hop, Op.operands]) _ hx
  generalize ha : A.eval x = q at h1
  cases h1 with | ms _ _ _ _ _ ad had hc => ?_
  obtain ⟨arr, T, e1, e2, e3, e4, e5, e6⟩ := hi.obs n _ hm
  have hlen : l.length = len := by
    have := congrArg List.length hl
    simp only [List.length_take, List.length_drop, List.length_map] at this
    omega
  have main : (Conv.bytesToString (.slice ad len cap)).run P W = .ok (.string ⟨l.toArray⟩) W := by
    by_cases h0 : len = 0
    · subst h0
      have hl0 : l = [] := List.length_eq_zero_iff.1 hlen
      subst hl0
      cases ad with
      | none => rfl
      | some ad =>
        rw [run_bytesToString W ad 0 cap [] (by simp [loadCells, loadCellsFrom])]
        rfl
    · obtain rfl := had (by omega)
      have hld : (loadCells ⟨g.blk n, off, none⟩ len).run P W = .ok ((l.map fun b => (b.toNat : Int)).map (Value.int .u8)).toArray W := by
        have := run_loadCells_list (P := P) (w := W) ⟨g.blk n, off, none⟩ ((l.map fun b => (b.toNat : Int)).map (Value.int .u8)) (fun j v hj => by
          rw [addr_add]
          have hjl : j < l.length := by
            rcases Nat.lt_or_ge j l.length with h | h
            · exact h
            · simp [List.getElem?_eq_none h] at hj
          have hv' : v = .int .u8 l[j].toNat := by simpa [hjl] using hj.symm
          have hcj : c[off + j]? = some (u8A l[j]) := by
            have := congrArg (fun z => z[j]?) hl
            simp only [List.getElem?_take, List.getElem?_drop, List.getElem?_map, List.getElem?_eq_getElem hjl, Option.map_some] at this
            rw [if_pos (by omega)] at this
            exact this
          have hlt : off + j < c.length := by omega
          have hce : c[off + j] = u8A l[j] := by rw [List.getElem?_eq_getElem hlt] at hcj; exact Option.some.inj hcj
          have hr := e5 (off + j) hlt
          rw [hce] at hr
          unfold u8A at hr
          have hav : arr.getD (off + j) undef = .int .u8 l[j].toNat := by
            generalize arr.getD (off + j) undef = z at hr
            cases hr with | d _ _ h => cases h; rfl
          have hcell : W.cell? ⟨g.blk n, off + j, none⟩ = some (arr.getD (off + j) undef) := by
            simp [World.cell?, e1, Array.getD, show off + j < arr.size by omega]
          rw [hv', ← hav, ← hcell])
        simpa [hlen] using this
      rw [run_bytesToString W _ len cap _ hld, fold_bytes]
      congr 2
  exact ⟨_, by simp only [execOp, hop, ha, Sem.run_bind, run_convert_bytes_string W s t e ad len cap hs.und he.und ht.und, main, Result.andThen_ok, Sem.run_pure], .d _ _ (.st _)⟩

theorem does_len_ms {x : Operand} {ats : Array TypeId} {ty : Ty} {e zz n off len cap : Nat} (hti : TiOK P ti) (hop : o.op = .call ⟨.builtin .len, #[x], ats⟩) {t : Nat} (ht : ti t = some ty) (hk : ty.kd = .slice e) (h0 : ats[0]? = some t) (hx : r x = some (.ms zz n off len cap)) : Does P mem nx r o (.d (.it .i64 len)) := by
  obtain ⟨u, i, ht⟩ := tyOf_ok (hti _ _ ht)
  obtain rfl := slice_of ht hk
  refine .of_run rfl fun κ g a w hi ho => ⟨.int .i64 len, ?_, .d _ _ (.it _ _)⟩
  have h1 := ho x (by simp [hop, Op.operands, Call.operands]) _ hx
  generalize ha : a.eval x = q at h1
  cases h1 with | ms _ _ _ _ _ ad had hc => ?_
  rw [run_call_builtin hop]
  simp [builtin, Builtin.len_, ha, h0, run_underlying ht.und, goInt]

theorem lt_vx {m sz n i len : Nat} (h : n < m) : (AV.vx sz n i len).lt m = true := by simp [AV.lt, AV.lt2, AV.lt1, AV.lt0, h]
theorem lt_vq {m sz n k off : Nat} (h : n < m) : (AV.vq sz n k off).lt m = true := by simp [AV.lt, AV.lt2, AV.lt1, AV.lt0, h]
theorem of_lt_vx {m sz n i len : Nat} (h : (AV.vx sz n i len).lt m = true) : n < m := by simpa [AV.lt, AV.lt2, AV.lt1, AV.lt0] using h
theorem of_lt_vq {m sz n k off : Nat} (h : (AV.vq sz n k off).lt m = true) : n < m := by simpa [AV.lt, AV.lt2, AV.lt1, AV.lt0] using h

theorem does_len_vx {x : Operand} {ats : Array TypeId} {ty : Ty} {e sz n i len : Nat} (hti : TiOK P ti) (hop : o.op = .call ⟨.builtin .len, #[x], ats⟩) {t : Nat} (ht : ti t = some ty) (hk : ty.kd = .slice e) (h0 : ats[0]? = some t) (hx : r x = some (.vx sz n i len)) : Does P mem nx r o (.d (.it .i64 len)) := by
  obtain ⟨u, inf, ht⟩ := tyOf_ok (hti _ _ ht)
  obtain rfl := slice_of ht hk
  refine .of_run rfl fun κ g a w hi ho => ⟨.int .i64 len, ?_, .d _ _ (.it _ _)⟩
  have h1 := ho x (by simp [hop, Op.operands, Call.operands]) _ hx
  generalize ha : a.eval x = q at h1
  cases h1 with | vx _ _ _ _ ad c hc had => ?_
  rw [run_call_builtin hop]
  simp [builtin, Builtin.len_, ha, h0, run_underlying ht.und, goInt]

theorem does_indexAddr_vx {t e tt : Nat} {x y : Operand} {ty ety : Ty} {sz n i0 len : Nat} {k : IntKind} {j : Int} {es : List (List D)} (hti : TiOK P ti) (hop : o.op = .indexAddr t x y) (ht : tyOf P t = some ty) (hk : ty.kd = .slice e) (he : ti e = some ety) (hsz : sz = ety.size)
    (hx : r x = some (.vx sz n i0 len)) (hy : r y = some (.d (.it k j))) {fl : Bool} (hm : look n mem = some (.vec tt sz es fl)) (hn : 0 ≤ j ∧ j < len ∧ i0 + len ≤ es.length) (hl : n < nx) : Does P mem nx r o (.vq sz n (i0 + j.toNat) 0) := by
  obtain ⟨u, i, ht⟩ := tyOf_ok ht
  obtain ⟨ue, ie, het⟩ := tyOf_ok (hti _ _ he)
  obtain rfl := slice_of ht hk
  refine .of_run (lt_vq hl) fun κ g a w hi ho => ?_
  have h1 := ho x (by simp [hop, Op.operands]) _ hx
  have h2 := evalInt (ho y (by simp [hop, Op.operands]) _ hy)
  generalize ha : a.eval x = q at h1
  cases h1 with | vx _ _ _ _ ad c hc had => ?_
  obtain ⟨hh, rfl, hcp⟩ := had.pos (by omega)
  have hcond : (0 : Int) ≤ j ∧ j < (len : Int) := ⟨hn.1, hn.2.1⟩
  have hv := AVR.vq (g := g) sz n (i0 + j.toNat) 0 hh
  rw [show g.hi n + (i0 + j.toNat) * sz + 0 = g.hi n + i0 * sz + j.toNat * sz by rw [Nat.add_mul]; omega] at hv
  refine ⟨_, ?_, hv⟩
  simp only [execOp, hop, ha, h2, Instr.indexAt, asIntOf, Sem.run_bind, Sem.run_pure, Result.andThen_ok, run_underlying ht.und, Sem.run_ite]
  rw [if_pos hcond]
  simp only [Sem.run_bind, run_sizeOf' het.info, Result.andThen_ok, Sem.run_pure, addr_add, het.size, hsz]

theorem does_load_vq {t tt sz n k off : Nat} {x : Operand} {ty : Ty} {es : List (List D)} {c : List D} (hop : o.op = .load t x) (ht : tyOf P t = some ty) (hr : r x = some (.vq sz n k off)) {fl : Bool} (hm : look n mem = some (.vec tt sz es fl)) (hs : off + ty.size ≤ sz) (h0 : off < sz) (hk : k < es.length) (hc : es[k]? = some c) : Does P mem nx r o (ldD ty (c.drop off)) := by
  obtain ⟨u, i, ht⟩ := tyOf_ok ht
  refine .of_run ldD_lt fun κ g a w hi ho => ?_
  have h1 := ho x (by simp [hop, Op.operands]) _ hr
  generalize ha : a.eval x = q at h1
  cases h1 with | vq _ _ _ _ hh => ?_
  obtain ⟨v1, v2, v3⟩ := hi.obs n _ hm
  obtain ⟨arr, e1, e2, e3, e4, e5, _, _⟩ := v3 hh
  have hck : es[k] = c := by rw [List.getElem?_eq_getElem hk] at hc; exact Option.some.inj hc
  have hcl : c.length = sz := by rw [← hck]; exact v1 _ (List.getElem_mem hk)
  have hb : k * sz + sz ≤ g.cp n := by
    have : (k + 1) * sz ≤ es.length * sz := Nat.mul_le_mul_right _ (by omega)
    rw [Nat.add_mul] at this; omega
  have hcell : ∀ j, j < arr.size → w.cell? ⟨g.blk n, j, none⟩ = some (arr.getD j undef) := fun j hj => by
    simp [World.cell?, e1, Array.getD, hj]
  have hd : ∀ j (h : j < (c.drop off).length), DR g.F (c.drop off)[j] (arr.getD (g.hi n + k * sz + off + j) undef) := fun j h => by
    simp only [List.length_drop] at h
    have := e4 k hk (off + j) (by rw [hck]; omega)
    rw [List.getElem_drop]
    have e : es[k][off + j]'(by rw [hck]; omega) = c[off + j] := by simp only [hck]
    rw [e, ← Nat.add_assoc] at this
    exact this
  refine ⟨_, ?_, ldD_ok (f := fun j => arr.getD (g.hi n + k * sz + off + j) undef) hd (by rw [List.length_drop]; omega) (by rw [List.length_drop]; omega)⟩
  simp only [execOp, hop, ha, Instr.loadAt, Instr.sureAddr, Sem.run_bind, Sem.run_pure, Result.andThen_ok]
  rw [run_loadVar ht (f := fun j => arr.getD (g.hi n + k * sz + off + j) undef) (fun j hj => hcell _ (by omega)) (hcell _ (by omega))]
  rfl

theorem sliV_ok {sz n i len lim : Nat} {lo hi : Option Int} (h : sliV sz n i len lim lo hi K) : (∀ x, lo = some x → 0 ≤ x) ∧ (∀ x, hi = some x → 0 ≤ x) ∧ (lo.map Int.toNat).getD 0 ≤ (hi.map Int.toNat).getD len ∧ ((hi.map Int.toNat).getD len ≤ len ∨ (hi.map Int.toNat).getD len ≤ lim) ∧
    ∃ v, K v ∧ v = .vx sz n (i + (lo.map Int.toNat).getD 0) ((hi.map Int.toNat).getD len - (lo.map Int.toNat).getD 0) := by
  unfold sliV at h
  split at h
  · exact ⟨(fun _ h => by cases h), (fun _ h => by cases h), Nat.zero_le _, .inl (Nat.le_refl _), _, h, by simp⟩
  · rename_i b
    refine ⟨(fun _ h => by cases h), (fun x hx => by cases hx; exact h.1.1), Nat.zero_le _, .inr (by simp; omega), _, h.2.run, by simp⟩
  · rename_i b
    refine ⟨(fun x hx => by cases hx; exact h.1.1), (fun _ h => by cases h), by simp; omega, .inl (Nat.le_refl _), _, h.2.run.run, by simp⟩
  · rename_i b c
    refine ⟨(fun x hx => by cases hx; exact h.1.1), (fun x hx => by cases hx; omega), by simp; omega, .inr (by simp; omega), _, h.2.run.run, by simp⟩

theorem vx_lim {g : Gh} {w : World} {sz n i c t : Nat} {ad : Option Addr} {es : List (List D)} {fl : Bool} (hv : VecOK g w n t sz es fl) (had : VxOK g sz n i ad c) (h0 : 0 < sz) : es.length - i ≤ c := by
  cases hh : g.has n with
  | false => rw [hv.2.1 hh]; exact Nat.le_trans (Nat.sub_le _ _) (Nat.zero_le _)
  | true =>
    obtain ⟨arr, e1, e2, e3, _⟩ := hv.2.2 hh
    rw [← had.1 hh] at e3
    have := Nat.le_of_mul_le_mul_right e3 h0
    omega

theorem does_slice_vx {t e : Nat} {x : Operand} {lo hi : Option Operand} {i j : Option Int} {ty ety : Ty} {sz n i0 len tt : Nat} {es : List (List D)} {fl : Bool} (hti : TiOK P ti) (hop : o.op = .slice t x lo hi none) (ht : tyOf P t = some ty) (hk : ty.kd = .slice e) (he : ti e = some ety) (hsz : sz = ety.size) (h0 : 0 < sz)
    (hx : r x = some (.vx sz n i0 len)) (hm : look n mem = some (.vec tt sz es fl)) (h1 : oInt r lo = some i) (h2 : oInt r hi = some j) (hl : n < nx) (hs : sliV sz n i0 len (es.length - i0) i j K) : ∃ v, K v ∧ Does P mem nx r o v := by
  obtain ⟨u, inf, ht⟩ := tyOf_ok ht
  obtain ⟨ue, ie, het⟩ := tyOf_ok (hti _ _ he)
  obtain rfl := slice_of ht hk
  obtain ⟨c1, c2, c3, c4, v, hK, rfl⟩ := sliV_ok hs
  refine ⟨_, hK, .of_run (lt_vx hl) fun κ g a w hi' ho => ?_⟩
  have e1 := oInt_ok (o := o) (g := g) (a := a) h1 (fun y hy => by subst hy; simp [hop, Op.operands]) ho
  have e2 := oInt_ok (o := o) (g := g) (a := a) h2 (fun y hy => by subst hy; simp [hop, Op.operands]) ho
  have hxv := ho x (by simp [hop, Op.operands]) _ hx
  generalize ha : a.eval x = q at hxv
  cases hxv with | vx _ _ _ _ ad c hc had => ?_
  have hlim : es.length - i0 ≤ c := vx_lim (hi'.obs n _ hm) had h0
  have hle : (j.map Int.toNat).getD len ≤ c := by omega
  have hrun := run_bounds (P := P) true len c (lo.map a.eval) (hi.map a.eval) none i j none e1 e2 rfl (by simp) hc c1 c2 (by simp) c3 hle (Nat.le_refl _) w
  have b1 : (bds len c i j none).1 = (i.map Int.toNat).getD 0 := rfl
  have b2 : (bds len c i j none).2.1 = (j.map Int.toNat).getD len := rfl
  have b3 : (bds len c i j none).2.2 = c := rfl
  refine ⟨.slice (if c = (i.map Int.toNat).getD 0 then ad else ad.map (·.add ((i.map Int.toNat).getD 0 * ety.size))) ((j.map Int.toNat).getD len - (i.map Int.toNat).getD 0) (c - (i.map Int.toNat).getD 0), ?_, .vx _ _ _ _ _ _ (by omega) ⟨fun h => ?_, fun h => ?_, fun h => ?_⟩⟩
  · simp only [execOp, hop, ha, Instr.sliceAt, Sem.run_bind, Sem.run_pure, Result.andThen_ok, run_underlying ht.und, Instr.slice, Option.map_none, hrun, run_sizeOf' het.info, het.size, b1, b2, b3]
  · rw [← had.1 h]; congr 1; omega
  · have := had.2.1 h; omega
  · obtain ⟨q1, q2, q3⟩ := had.pos (by omega)
    rw [if_neg (by omega), q2]
    show some (Addr.add _ _) = _
    rw [addr_add, ← hsz, Nat.add_mul, ← Nat.add_assoc]

theorem argsA_ok {g : Gh} {a : Act} : ∀ {l : List Operand} {args : List AV}, argsA r l = some args → (∀ x ∈ l, ∀ v, r x = some v → AVR g v (a.eval x)) → args.length = l.length ∧ ∀ j (h : j < args.length) (h' : j < l.length), AVR g args[j] (a.eval l[j])
  | [], args, h, _ => by obtain rfl := Option.some.inj h; exact ⟨rfl, fun j h => by cases h⟩
  | x :: t, args, h, ho => by
    simp only [argsA] at h
    split at h
    · rename_i v l h1 h2
      obtain rfl := Option.some.inj h
      obtain ⟨i1, i2⟩ := argsA_ok (g := g) (a := a) h2 (fun x hx => ho x (List.mem_cons_of_mem _ hx))
      refine ⟨by simp [i1], fun j h h' => ?_⟩
      cases j with
      | zero => exact ho x List.mem_cons_self v h1
      | succ j => exact i2 j (by simpa using h) (by simpa using h')
    · cases h
theorem argsA_mem {l : List Operand} {args : List AV} (h : argsA r l = some args) {v : AV} (hv : v ∈ args) : ∃ x ∈ l, r x = some v := by
  induction l generalizing args with
  | nil => obtain rfl := Option.some.inj h; cases hv
  | cons x t ih =>
    simp only [argsA] at h
    split at h
    · rename_i u l h1 h2
      obtain rfl := Option.some.inj h
      rcases List.mem_cons.1 hv with rfl | hv
      · exact ⟨x, List.mem_cons_self, h1⟩
      · obtain ⟨y, hy, e⟩ := ih h2 hv
        exact ⟨y, List.mem_cons_of_mem _ hy, e⟩
    · cases h
theorem flat_lt {v : AV} {m : Nat} (hf : v.flat = true) (h : v.lt m = true) : v.lt0 m = true := by
  cases v <;> first | exact h | cases hf
theorem does_makeFunc {fn : Fn} {first caps : Array Operand} {f c : List AV} (hop : o.op = .makeFunc fn first caps) (hf : argsA r first.toList = some f) (hc : argsA r caps.toList = some c) (h1 : f.all AV.flat = true) (h2 : c.all AV.flat = true)
    (hlt : ∀ x v, r x = some v → v.lt nx = true) : Does P mem nx r o (.fn fn f c) := by
  rw [List.all_eq_true] at h1 h2
  refine .of_run ?_ fun κ g a w hi ho => ⟨.func fn (first.map a.eval) (caps.map a.eval), ?_, ?_⟩
  · simp only [AV.lt, AV.lt2, AV.lt1, List.all_eq_true, Bool.and_eq_true]
    refine ⟨fun v hv => ?_, fun v hv => ?_⟩
    · obtain ⟨x, _, e⟩ := argsA_mem hf hv
      exact flat_lt (h1 v hv) (hlt x v e)
    · obtain ⟨x, _, e⟩ := argsA_mem hc hv
      exact flat_lt (h2 v hv) (hlt x v e)
  · simp only [execOp, hop, Instr.makeFunc, Sem.run_bind, Sem.run_pure, Result.andThen_ok]
  · obtain ⟨a1, a2⟩ := argsA_ok (g := g) (a := a) hf (fun x hx v hv => ho x (by simp only [hop, Op.operands]; simp at hx ⊢; exact .inl hx) v hv)
    obtain ⟨b1, b2⟩ := argsA_ok (g := g) (a := a) hc (fun x hx v hv => ho x (by simp only [hop, Op.operands]; simp at hx ⊢; exact .inr hx) v hv)
    refine .fn _ _ _ _ _ (by simp [a1]) (by simp [b1]) (fun j hj => ?_) fun j hj => ?_
    · have h' : j < first.size := by simpa using (a1 ▸ hj : j < first.toList.length)
      have := a2 j hj (by simpa using h')
      simpa [Array.getD, h'] using this
    · have h' : j < caps.size := by simpa using (b1 ▸ hj : j < caps.toList.length)
      have := b2 j hj (by simpa using h')
      simpa [Array.getD, h'] using this

theorem run_eql_nil {P : Program} {tp te : TypeId} (w : World) (a : Option Addr) (hp : P.underlying tp = some (.pointer te)) : (binOp .eql tp (.pointer a) (.pointer none)).run P w = .ok (.bool a.isNone) w := by
  have h : ∀ d : Nat, (Op.equalIn (d + 1) tp (.pointer a) (.pointer none)).run P w = .ok a.isNone w := fun d => by
    cases a <;> simp [Op.equalIn, run_underlying hp]
  simp only [binOp]
  simp [Op.equal, Op.maxDepth, h 9999]
theorem run_neq_of {P : Program} {tp : TypeId} {x y : Option Addr} {b : Bool} {w : World} (h : (binOp .eql tp (.pointer x) (.pointer y)).run P w = .ok (.bool b) w) : (binOp .neq tp (.pointer x) (.pointer y)).run P w = .ok (.bool (!b)) w := by
  simp only [binOp, Sem.run_bind] at h ⊢
  cases hq : (Op.equal tp (.pointer x) (.pointer y)).run P w with
  | ok v w' =>
    rw [hq] at h
    simp only [Result.andThen_ok, Sem.run_pure, Result.ok.injEq, Value.bool.injEq] at h ⊢
    obtain ⟨rfl, rfl⟩ := h
    exact ⟨rfl, rfl⟩
  | halt p w' => rw [hq] at h; simp at h
theorem ptr_of {t : Nat} {ty : Ty} {u : TypeDesc} {i : TypeInfo} {e : Nat} (ht : TyOK P t ty u i) (hk : ty.kd = .ptr e) : u = .pointer e := by
  have hkd := ht.kd
  rw [hk] at hkd
  cases u <;> simp only [kdOf] at hkd <;> first | (cases hkd; done) | skip
  cases hkd; rfl

theorem does_cmpP {op : BinOp} {t t' e : Nat} {x y : Operand} {u v : AV} {ty : Ty} {b : Bool} (hti : TiOK P ti) (hop : o.op = .binOp op t x y t') (ht : ti t = some ty) (hk : ty.kd = .ptr e) (hx : r x = some u) (hy : r y = some v) (ho : op = .eql ∨ op = .neq)
    (h : ∀ (g : Gh) (p q : Value) (w : World), AVR g u p → AVR g v q → P.underlying t = some (.pointer e) → ∃ a c, p = .pointer a ∧ q = .pointer c ∧ (binOp .eql t (.pointer a) (.pointer c)).run P w = .ok (.bool b) w) : Does P mem nx r o (.d (.bl (match op with | .neq => !b | _ => b))) := by
  obtain ⟨uu, i, ht⟩ := tyOf_ok (hti _ _ ht)
  obtain rfl := ptr_of ht hk
  refine .of_run rfl fun κ g a w hi hoo => ?_
  obtain ⟨p, q, e1, e2, e3⟩ := h g _ _ w (hoo x (by simp [hop, Op.operands]) _ hx) (hoo y (by simp [hop, Op.operands]) _ hy) ht.und
  have eg : ∀ op, (eqGuard op t x y (.pointer p) (.pointer q)).run P w = .ok () w := fun op => by cases op <;> rfl
  rcases ho with rfl | rfl
  · exact ⟨_, by simp only [execOp, hop, e1, e2, Sem.run_bind, eg, Result.andThen_ok, e3, Sem.run_pure], .d _ _ (.bl _)⟩
  · exact ⟨_, by simp only [execOp, hop, e1, e2, Sem.run_bind, eg, Result.andThen_ok, run_neq_of e3, Sem.run_pure], .d _ _ (.bl _)⟩

theorem ptr_val {g : Gh} {n off : Nat} {v : Value} (h : AVR g (.ptr n off) v) : v = .pointer (some ⟨g.blk n, off, none⟩) := by cases h; rfl
theorem nilp_val {g : Gh} {v : Value} (h : AVR g (.d (.ot (.pointer none))) v) : v = .pointer none := by cases h with | d _ _ h => cases h; rfl
theorem cmp_same {g : Gh} {n m a b t e : Nat} {p q : Value} {w : World} (hti : TiOK P ti) (hs : (Nat.beq n m && Nat.beq a b && (ti e).isSome) = true) (h1 : AVR g (.ptr n a) p) (h2 : AVR g (.ptr m b) q) (hu : P.underlying t = some (.pointer e)) :
    ∃ a c, p = .pointer a ∧ q = .pointer c ∧ (binOp .eql t (.pointer a) (.pointer c)).run P w = .ok (.bool true) w := by
  simp only [Bool.and_eq_true] at hs
  obtain ⟨⟨hn, ha⟩, he⟩ := hs
  obtain rfl := Nat.eq_of_beq_eq_true hn
  obtain rfl := Nat.eq_of_beq_eq_true ha
  obtain ⟨ety, he⟩ := Option.isSome_iff_exists.1 he
  obtain ⟨_, i, hte⟩ := tyOf_ok (hti _ _ he)
  exact ⟨_, _, ptr_val h1, ptr_val h2, run_eql_ptr_same w _ hu hte.info⟩

theorem unsafe_of {t : Nat} {ty : Ty} {u : TypeDesc} {i : TypeInfo} (ht : TyOK P t ty u i) (hk : ty.kd = .usafe) : u = .unsafePointer := by
  have hkd := ht.kd
  rw [hk] at hkd
  cases u <;> simp only [kdOf] at hkd <;> first | (cases hkd; done) | rfl

/-- At the head of a row of variables of one type such a variable lies. -/
theorem liesAt_self {P : Program} {e s cells : Nat} (hc : P.cellsOf e = s) (h0 : 0 < s) (hle : s ≤ cells) : liesAt P P.depth e (cells / P.cellsOf e) 0 e 1 = true := by
  have hd : P.depth = (2 * (P.types.size + Made.depth) + 1) + 1 := rfl
  rw [hd]
  simp only [liesAt, Bool.or_eq_true]
  left
  rw [hd]
  have h1 : 1 ≤ cells / s := by rw [Nat.le_div_iff_mul_le h0]; omega
  simp [rowAt, hc, sameLayout, show s ≠ 0 by omega, h1]

theorem does_conv_toU {s t e n off size : Nat} {x : Operand} {sty ty ety : Ty} {c : List AV} (hti : TiOK P ti) (hop : o.op = .convert s t x) (hs : ti s = some sty) (hsk : sty.kd = .ptr e) (ht : ti t = some ty) (hk : ty.kd = .usafe) (he : ti e = some ety)
    (hx : r x = some (.ptr n off)) (hm : look n mem = some (.cells size c)) (h0 : 0 < ety.size) (hoff : off < size) (hl : n < nx) : Does P mem nx r o (.ptr n off) := by
  obtain ⟨u, i, hs⟩ := tyOf_ok (hti _ _ hs)
  obtain ⟨u', i', ht⟩ := tyOf_ok (hti _ _ ht)
  obtain ⟨u'', i'', he⟩ := tyOf_ok (hti _ _ he)
  obtain rfl := ptr_of hs hsk
  obtain rfl := unsafe_of ht hk
  refine .of_run (lt_ptr hl) fun κ g a w hi ho => ?_
  have h1 := ptr_val (ho x (by simp [hop, Op.operands]) _ hx)
  obtain ⟨arr, T, e1, e2, _⟩ := hi.obs n _ hm
  refine ⟨_, ?_, .ptr _ _⟩
  have := Lib.run_to_unsafe w (src := s) (dst := t) (t := e) (e := T) (j := i'') (cells := arr.size) ⟨g.blk n, off, none⟩ hs.und ht.und he.info (by rw [he.size]; omega) (by simp [World.shape?, e1]) (by show off < arr.size; omega)
  simp only [execOp, hop, h1, Sem.run_bind, this, Result.andThen_ok, Sem.run_pure]

theorem does_conv_ofU {s t e n off size m t' : Nat} {x : Operand} {sty ty ety : Ty} {c : List AV} (hti : TiOK P ti) (hop : o.op = .convert s t x) (hs : ti s = some sty) (hsk : sty.kd = .usafe) (ht : ti t = some ty) (hk : ty.kd = .ptr e) (he : ti e = some ety)
    (hx : r x = some (.ptr n off)) (hm : look n mem = some (.cells size c)) (htag : look (n + 1) mem = some (.tag m t')) (hb : (Nat.beq m n && Nat.beq t' e && (Nat.beq off 0 && Nat.ble ety.size size && Nat.blt 0 ety.size)) = true) (hl : n < nx) : Does P mem nx r o (.ptr n off) := by
  simp only [Bool.and_eq_true, Nat.blt_eq] at hb
  obtain ⟨⟨b1, b2⟩, ⟨b3, b4⟩, b5⟩ := hb
  obtain rfl := Nat.eq_of_beq_eq_true b1
  obtain rfl := Nat.eq_of_beq_eq_true b2
  obtain rfl := Nat.eq_of_beq_eq_true b3
  have b4 := Nat.le_of_ble_eq_true b4
  obtain ⟨u, i, hs⟩ := tyOf_ok (hti _ _ hs)
  obtain ⟨u', i', ht⟩ := tyOf_ok (hti _ _ ht)
  obtain ⟨u'', i'', he⟩ := tyOf_ok (hti _ _ he)
  obtain rfl := unsafe_of hs hsk
  obtain rfl := ptr_of ht hk
  refine .of_run (lt_ptr hl) fun κ g a w hi ho => ?_
  have h1 := ptr_val (ho x (by simp [hop, Op.operands]) _ hx)
  obtain ⟨arr, T, e1, e2, _⟩ := hi.obs m _ hm
  obtain ⟨arr', fz, e3⟩ := hi.obs _ _ htag
  rw [e1] at e3
  cases e3
  refine ⟨_, ?_, .ptr _ _⟩
  have hcell : P.cellsOf t' = ety.size := by simp [Program.cellsOf, he.info, he.size]
  have := Lib.run_from_unsafe w (src := s) (dst := t) (u := t') (e := t') (j := i'') (cells := arr.size) ⟨g.blk m, 0, none⟩ hs.und ht.und he.info (by simp [World.shape?, e1]) (liesAt_self hcell b5 (by omega))
  simp only [execOp, hop, h1, Sem.run_bind, this, Result.andThen_ok, Sem.run_pure]

theorem does_sliceData {x : Operand} {ats : Array TypeId} {es : List (List D)} {n t : Nat} (hop : o.op = .call ⟨.builtin .unsafeSliceData, #[x], ats⟩) (hx : r x = some (.ts 1 es n)) (hm : look n mem = some (.tail t true)) (hl : n < nx) : Does P mem nx r o (.sd es n) := by
  refine .of_run (by simp [AV.lt, AV.lt2, AV.lt1, AV.lt0, hl]) fun κ g a w hi ho => ?_
  have h1 := ho x (by simp [hop, Op.operands, Call.operands]) _ hx
  have hob := hi.obs n _ hm
  generalize ha : a.eval x = q at h1
  cases h1 with
  | ts0 _ _ _ ad len hl hd hh hz =>
    obtain ⟨rfl, rfl⟩ := hz (hob.2 rfl hh)
    refine ⟨.pointer none, ?_, .sd _ _ _ fun h => (h rfl).elim⟩
    rw [run_call_builtin hop]
    simp [builtin, ha, Lib.run_unsafeSliceData_nil]
  | ts _ _ _ off len cap h0 hn hd hl hc h1 h2 hpos =>
    refine ⟨.pointer (some ⟨g.blk n, off, none⟩), ?_, .sd _ _ _ fun _ => ⟨off, len, cap, rfl, hn, hd, hl, by omega⟩⟩
    rw [run_call_builtin hop]
    have hc0 : cap ≠ 0 := by omega
    simp [builtin, ha, Lib.run_unsafeSliceData_row (hc := hc0)]

theorem does_sliceData_nil {x : Operand} {ats : Array TypeId} {sz : Nat} (hop : o.op = .call ⟨.builtin .unsafeSliceData, #[x], ats⟩) (hx : r x = some (.nl sz)) : Does P mem nx r o (.d (.ot (.pointer none))) := by
  refine .of_run rfl fun κ g a w hi ho => ⟨.pointer none, ?_, .d _ _ (.ot _ rfl)⟩
  have h1 := ho x (by simp [hop, Op.operands, Call.operands]) _ hx
  generalize ha : a.eval x = q at h1
  cases h1
  rw [run_call_builtin hop]
  simp [builtin, ha, Lib.run_unsafeSliceData_nil]

theorem evValM_sound (hti : TiOK P ti) (hlt : ∀ x v, r x = some v → v.lt nx = true) {p : Prop} (h : evValM ti mem r o K = some p) (hp : p) : ∃ v, K v ∧ Does P mem nx r o v := by
  unfold evValM at h
  split at h
  · rename_i t x i hop
    split at h
    · rename_i zz n off len cap hx
      obtain rfl := Option.some.inj h
      split at hp
      · rename_i e sz by' z cmp pl k j ht hi
        split at hp
        · rename_i ety he
          exact ⟨_, hp.2.run, does_indexAddr_ms hti hop (hti _ _ ht) rfl he hx hi hp.1 (of_lt_ms (hlt _ _ hx))⟩
        · exact hp.elim
      · exact hp.elim
    · rename_i n off hx
      obtain rfl := Option.some.inj h
      split at hp
      · rename_i len e sz by' z cmp pl k j ht hi
        split at hp
        · rename_i ety he
          exact ⟨_, hp.2.run, does_indexAddr_arrM hti hop (hti _ _ ht) rfl he hx hi hp.1 (of_lt_ptr (hlt _ _ hx))⟩
        · exact hp.elim
      · exact hp.elim
    · rename_i sz n i0 len hx
      obtain rfl := Option.some.inj h
      split at hp
      · rename_i e _ _ _ _ _ k j tt sz' es fl ht hi hm
        split at hp
        · rename_i ety he
          obtain ⟨hb, hK⟩ := bif_ok hp
          simp only [Bool.and_eq_true] at hb
          have hs := Nat.eq_of_beq_eq_true hb.1
          obtain rfl := Nat.eq_of_beq_eq_true hb.2
          exact ⟨_, hK.2.run, does_indexAddr_vx hti hop (hti _ _ ht) rfl he hs hx hi hm hK.1 (of_lt_vx (hlt _ _ hx))⟩
        · exact hp.elim
      · exact hp.elim
    · cases h
  · rename_i t x f hop
    split at h
    · rename_i sz n k off hx
      obtain rfl := Option.some.inj h
      split at hp
      · rename_i fs _ _ _ _ _ ht
        split at hp
        · rename_i fo fsz hf
          obtain ⟨hb, hK⟩ := bif_ok hp
          exact ⟨_, hK, does_fieldAddr hti hop (hti _ _ ht) rfl hf (by simpa using hb) hx (.inr (.inr ⟨_, _, _, _, rfl, rfl, of_lt_vq (hlt _ _ hx)⟩))⟩
        · exact hp.elim
      · exact hp.elim
    · cases h
  · rename_i t x hop
    split at h
    · rename_i sz n k off hx
      obtain rfl := Option.some.inj h
      split at hp
      · rename_i ty tt sz' es fl ht hm
        obtain ⟨hb, hK⟩ := bif_ok hp
        simp only [Bool.and_eq_true, Nat.blt_eq] at hb
        obtain ⟨⟨hb1, hb2⟩, hb3⟩ := hb
        obtain rfl := Nat.eq_of_beq_eq_true hb1
        obtain ⟨hk, hK⟩ := hK
        exact ⟨_, hK _ (List.getElem?_eq_getElem hk), does_load_vq hop (hti _ _ ht) hx hm (Nat.le_of_ble_eq_true hb2) hb3 hk (List.getElem?_eq_getElem hk)⟩
      · exact hp.elim
    · cases h
  · rename_i t x lo hi hop
    split at h
    · rename_i zz n off len cap hx
      obtain rfl := Option.some.inj h
      split at hp
      · rename_i e sz by' z cmp pl i j ht h1 h2
        split at hp
        · rename_i ety he
          exact does_slice_ms hti hop (hti _ _ ht) rfl he hx h1 h2 (of_lt_ms (hlt _ _ hx)) hp.2 hp.1
        · exact hp.elim
      · exact hp.elim
    · rename_i n off hx
      obtain rfl := Option.some.inj h
      split at hp
      · rename_i len e sz by' z cmp pl i j ht h1 h2
        split at hp
        · rename_i ety he
          exact does_slice_arrM hti hop (hti _ _ ht) rfl he hx h1 h2 (of_lt_ptr (hlt _ _ hx)) hp
        · exact hp.elim
      · exact hp.elim
    · rename_i sz n i len hx
      obtain rfl := Option.some.inj h
      split at hp
      · rename_i e _ _ _ _ _ i' j' tt sz' es fl ht h1 h2 hm
        split at hp
        · rename_i ety he
          obtain ⟨hb, hK⟩ := bif_ok hp
          simp only [Bool.and_eq_true, Nat.blt_eq] at hb
          obtain ⟨⟨hb1, hb2⟩, hb3⟩ := hb
          have hb1 := Nat.eq_of_beq_eq_true hb1
          obtain rfl := Nat.eq_of_beq_eq_true hb2
          exact does_slice_vx hti hop (hti _ _ ht) rfl he hb1 hb3 hx hm h1 h2 (of_lt_vx (hlt _ _ hx)) hK
        · exact hp.elim
      · exact hp.elim
    · cases h
  · rename_i s t x hop
    split at h
    · rename_i zz n off len cap hx
      obtain rfl := Option.some.inj h
      split at hp
      · rename_i hs ht hm
        split at hp
        · rename_i he
          obtain ⟨l, ⟨h1, h2⟩, hK⟩ := hp
          exact ⟨_, hK, does_conv_ms hti hop hs rfl ht rfl he rfl hx hm h1 h2⟩
        · exact hp.elim
      · exact hp.elim
    · rename_i n off hx
      obtain rfl := Option.some.inj h
      split at hp
      · rename_i hs ht hm
        split at hp
        · rename_i ety he
          obtain ⟨hb, hK⟩ := bif_ok hp
          simp only [Bool.and_eq_true, Nat.blt_eq] at hb
          exact ⟨_, hK, does_conv_toU hti hop hs rfl ht rfl he hx hm hb.1 hb.2 (of_lt_ptr (hlt _ _ hx))⟩
        · exact hp.elim
      · rename_i hs ht hm
        split at hp
        · rename_i m t' ety htag he
          obtain ⟨hb, hK⟩ := bif_ok hp
          exact ⟨_, hK, does_conv_ofU hti hop hs rfl ht rfl he hx hm htag hb (of_lt_ptr (hlt _ _ hx))⟩
        · exact hp.elim
      · exact hp.elim
    · cases h
  · rename_i op t x y t' hop
    have hlx := hlt
    split at h
    · rename_i n a m b e sz by' z cmp pl hx hy ht
      obtain rfl := Option.some.inj h
      obtain ⟨hb, hK⟩ := bif_ok hp
      exact ⟨_, hK, does_cmpP (b := true) hti hop ht rfl hx hy (.inl rfl) fun g p q w h1 h2 hu => cmp_same hti hb h1 h2 hu⟩
    · rename_i n a m b e sz by' z cmp pl hx hy ht
      obtain rfl := Option.some.inj h
      obtain ⟨hb, hK⟩ := bif_ok hp
      exact ⟨_, hK, does_cmpP (b := true) hti hop ht rfl hx hy (.inr rfl) fun g p q w h1 h2 hu => cmp_same hti hb h1 h2 hu⟩
    · rename_i n a e sz by' z cmp pl hx hy ht
      obtain rfl := Option.some.inj h
      exact ⟨_, hp, does_cmpP (b := false) hti hop ht rfl hx hy (.inl rfl) fun g p q w h1 h2 hu => ⟨_, _, ptr_val h1, nilp_val h2, run_eql_nil w _ hu⟩⟩
    · rename_i n a e sz by' z cmp pl hx hy ht
      obtain rfl := Option.some.inj h
      exact ⟨_, hp, does_cmpP (b := false) hti hop ht rfl hx hy (.inr rfl) fun g p q w h1 h2 hu => ⟨_, _, ptr_val h1, nilp_val h2, run_eql_nil w _ hu⟩⟩
    · rename_i e sz by' z cmp pl hx hy ht
      obtain rfl := Option.some.inj h
      exact ⟨_, hp, does_cmpP (b := true) hti hop ht rfl hx hy (.inl rfl) fun g p q w h1 h2 hu => ⟨_, _, nilp_val h1, nilp_val h2, run_eql_nil w _ hu⟩⟩
    · rename_i e sz by' z cmp pl hx hy ht
      obtain rfl := Option.some.inj h
      exact ⟨_, hp, does_cmpP (b := true) hti hop ht rfl hx hy (.inr rfl) fun g p q w h1 h2 hu => ⟨_, _, nilp_val h1, nilp_val h2, run_eql_nil w _ hu⟩⟩
    · cases h
  · rename_i args ats hop
    split at h
    · rename_i x ha
      have hargs : args = #[x] := by rw [← Array.toArray_toList (xs := args), ha]
      subst hargs
      split at h
      · rename_i sz es n hx
        obtain rfl := Option.some.inj h
        split at hp
        · rename_i t b hm
          obtain ⟨hb, hK⟩ := bif_ok hp
          simp only [Bool.and_eq_true] at hb
          obtain ⟨rfl, hb⟩ := hb
          obtain rfl := Nat.eq_of_beq_eq_true hb
          exact ⟨_, hK, does_sliceData hop hx hm (by have := hlt _ _ hx; simpa [AV.lt, AV.lt2, AV.lt1, AV.lt0] using this)⟩
        · exact hp.elim
      · rename_i sz hx
        obtain rfl := Option.some.inj h
        exact ⟨_, hp, does_sliceData_nil hop hx⟩
      · cases h
    · cases h
  · rename_i fn first caps hop
    split at h
    · rename_i f c hf hc
      cases hb : (f.all AV.flat && c.all AV.flat) with
      | false => rw [hb] at h; cases h
      | true =>
        rw [hb] at h
        obtain rfl := Option.some.inj h
        simp only [Bool.and_eq_true] at hb
        exact ⟨_, hp, does_makeFunc hop hf hc hb.1 hb.2 hlt⟩
    · cases h
  · rename_i args ats hop
    split at h
    · rename_i x ha
      have hargs : args = #[x] := by rw [← Array.toArray_toList (xs := args), ha]
      subst hargs
      split at h
      · rename_i zz n off len cap e sz by' z cmp pl hx ht
        obtain rfl := Option.some.inj h
        obtain ⟨t, h0, ht⟩ := Option.bind_eq_some_iff.1 ht
        exact ⟨_, hp, does_len_ms hti hop ht rfl h0 hx⟩
      · rename_i sz n i len e _ _ _ _ _ hx ht
        obtain rfl := Option.some.inj h
        obtain ⟨t, h0, ht⟩ := Option.bind_eq_some_iff.1 ht
        exact ⟨_, hp, does_len_vx hti hop ht rfl h0 hx⟩
      · cases h
    · cases h
  · cases h

theorem evV_sound (hti : TiOK P ti) (hlt : ∀ x v, r x = some v → v.lt nx = true) (hmem : ∀ n ob, look n mem = some ob → n < nx ∧ ob.lt nx = true) (h : evV P ti mem r o K) : ∃ v, K v ∧ Does P mem nx r o v := by
  unfold evV at h
  split at h
  · rename_i p hp; exact evValM_sound hti hlt hp h
  · exact evVal_sound hti hlt hmem h
end
end Go.Sy

/- The operations that turn the abstract memory: new variables, stores, append; and that they do what they say. Conditions: none. -/
namespace Go.Sy
set_option linter.unusedVariables false
set_option linter.unusedSimpArgs false

/-- Forget a name: an open slice of that name is henceforth what it shows. -/
def AV.down0 (n : Nat) : AV → AV
  | .ts sz es m => bif Nat.beq m n then .d (.fs sz es) else .ts sz es m
  | .ptr m off => bif Nat.beq m n then .jk else .ptr m off
  | .ms sz m off len cap => bif Nat.beq m n then .jk else .ms sz m off len cap
  | .yld m => bif Nat.beq m n then .jk else .yld m
  | .sd es m => bif Nat.beq m n then .jk else .sd es m
  | .vx sz m i len => bif Nat.beq m n then .jk else .vx sz m i len
  | .vq sz m k off => bif Nat.beq m n then .jk else .vq sz m k off
  | v => v
def AV.down1 (n : Nat) : AV → AV
  | .fn f a b => .fn f (a.map (AV.down0 n)) (b.map (AV.down0 n))
  | v => v.down0 n
def AV.down2 (n : Nat) : AV → AV
  | .ag k cs => .ag k (cs.map (AV.down1 n))
  | v => v.down1 n
def AV.down (n : Nat) : AV → AV
  | .tup vs => .tup (vs.map (AV.down2 n))
  | v => v.down2 n
def downs (n : Nat) : List (Nat × AV) → List (Nat × AV)
  | [] => []
  | (k, v) :: t => (k, v.down n) :: downs n t
def Ob.down (n : Nat) : Ob → Ob
  | .cells size c => .cells size (c.map (AV.down1 n))
  | .tail t b => .tail t b
  | .vec t sz es f => .vec t sz es f
  | .tag m t => bif Nat.beq m n then .frame 0 [] else .tag m t
  | .frame sz l => .frame sz (downs n l)
  | .loop k ps asg body st pd => .loop k ps asg body st pd
def downm (n : Nat) : List (Nat × Ob) → List (Nat × Ob)
  | [] => []
  | (k, v) :: t => (k, v.down n) :: downm n t

def S.put (σ : S) (d : Option Nat) (v : AV) : S :=
  match d with
  | some k => ⟨(k, v) :: σ.sl, σ.mem, σ.nx⟩
  | none => σ

/-- What is appended, as elements. -/
def tailOf (sz : Nat) : AV → Option (List (List D))
  | .d (.st l) => bif Nat.beq sz 1 then some (bytesD l) else none
  | v => match sliceOf v with
    | some (k, es) => bif Nat.beq k sz || es.isEmpty then some es else none
    | none => none

/-- The elements' type of the first argument's slice type (the second argument: a slice or a string). -/
def elemTy (ti : Nat → Option Ty) (ats : Array TypeId) : Option Ty :=
  match ats[0]?, ats[1]? with
  | some t, some t' => match ti t, ti t' with
    | some ⟨.slice e, _, _, _, _, _⟩, some ⟨.slice _, _, _, _, _, _⟩ => ti e
    | some ⟨.slice e, _, _, _, _, _⟩, some ⟨.string, _, _, _, _, _⟩ => ti e
    | _, _ => none
  | _, _ => none

/-- The elements' type, by its number. -/
def elId (ti : Nat → Option Ty) (t : Nat) : Nat :=
  match ti t with
  | some ⟨.slice e, _, _, _, _, _⟩ => e
  | _ => 0
def elemId (ti : Nat → Option Ty) (ats : Array TypeId) : Nat :=
  match ats[0]? with
  | some t => elId ti t
  | none => 0

/-- Is an open slice known to be nil where it has no block? -/
def tailB (n : Nat) (mem : List (Nat × Ob)) : Bool :=
  match look n mem with
  | some (.tail _ b) => b
  | _ => false

def elSz (ti : Nat → Option Ty) (t : Nat) : Nat :=
  match ti t with
  | some ⟨.slice e, _, _, _, _, _⟩ => match ti e with | some ety => ety.size | none => 0
  | _ => 0

/-- Whichever. -/
structure Both (A B : Prop) : Prop where
  l : A
  r : B

/-- A nil slice: to be appended to only, or to be written in as well. -/
inductive NilS (A B : Prop) : Prop
  | ts (h : A)
  | vec (h : B)

/-- Elements, written as one likes. -/
inductive LetE (e : List (List D)) (K : List (List D) → Prop) : Prop
  | mk (l : List (List D)) (h : l = e) (k : K l)
theorem LetE.now {e : List (List D)} {K : List (List D) → Prop} (h : K e) : LetE e K := ⟨e, rfl, h⟩
theorem LetE.out {e : List (List D)} {K : List (List D) → Prop} (h : LetE e K) : K e := by obtain ⟨l, rfl, k⟩ := h; exact k

def evEff (P : Program) (ti : Nat → Option Ty) (o : Oper) (σ : S) (K : S → Prop) : Option Prop :=
  match o.op with
  | .assign (.const (.slice none 0 0)) => match o.dst with
    | some d => some (NilS (K ⟨(d, .ts (elSz ti o.type) [] σ.nx) :: σ.sl, (σ.nx, .tail (elId ti o.type) true) :: σ.mem, σ.nx + 1⟩) (K ⟨(d, .vx (elSz ti o.type) σ.nx 0 0) :: σ.sl, (σ.nx, .vec (elId ti o.type) (elSz ti o.type) [] false) :: σ.mem, σ.nx + 1⟩))
    | none => some False
  | .binOp .eql t x (.const (.slice none 0 0)) _ => match ti t, o.dst, ρ σ.sl x with
    | some ⟨.slice _, _, _, _, _, _⟩, some d, some v => match sliceOf v with
      | some (_, es) => some (Spl es.isEmpty (Both (K (σ.put (some d) (.d (.bl true)))) (K (σ.put (some d) (.d (.bl false))))) (K (σ.put (some d) (.d (.bl false)))))
      | none => none
    | _, _, _ => none
  | .alloc e => match ti e, o.dst with
    | some ty, some d => some (bif Nat.beq ty.zero.length ty.size && Nat.blt 0 ty.size then (match ty.kd with | .struct _ => K ⟨(d, .ptr σ.nx 0) :: σ.sl, (σ.nx + 1, .tag σ.nx e) :: (σ.nx, .cells ty.size (ty.zero.map toA)) :: σ.mem, σ.nx + 2⟩ | _ => K ⟨(d, .ptr σ.nx 0) :: σ.sl, (σ.nx, .cells ty.size (ty.zero.map toA)) :: σ.mem, σ.nx + 1⟩) else False)
    | _, _ => some False
  | .makeSlice t x y => match ti t, o.dst, ρ σ.sl x, ρ σ.sl y with
    | some ⟨.slice e, _, _, _, _, _⟩, some d, some (.d (.it _ len)), some (.d (.it _ cap)) => match ti e with
      | some ety => some (bif Nat.beq ety.zero.length ety.size && Nat.blt 0 ety.size then (0 ≤ len ∧ len ≤ cap ∧ cap ≤ 281474976710656 ∧ ety.bytes * cap ≤ 281474976710656) ∧ LetN len.toNat fun a => LetN cap.toNat fun b => K ⟨(d, .ms ety.size σ.nx 0 a b) :: σ.sl, (σ.nx, .cells (b * ety.size) ((zeros b ety.zero).map toA)) :: σ.mem, σ.nx + 1⟩ else False)
      | none => some False
    | _, _, _, _ => some False
  | .box e x => match ti e, o.dst, ρ σ.sl x with
    | some ty, some d, some v => match cellsA v with
      | some (k, l) => some (bif Nat.beq k ty.size then K ⟨(d, .ptr σ.nx 0) :: σ.sl, (σ.nx, .cells ty.size l) :: σ.mem, σ.nx + 1⟩ else False)
      | none => some False
    | _, _, _ => some False
  | .store t x y => match o.dst, ti t, ρ σ.sl x, ρ σ.sl y with
    | none, some ty, some (.ptr n off), some v => match look n σ.mem, cellsA v with
      | some (.cells size c), some (k, l) => some (bif Nat.beq k ty.size && Nat.ble (off + k) size then K ⟨σ.sl, (n, .cells size (c.take off ++ l ++ c.drop (off + k))) :: σ.mem, σ.nx⟩ else False)
      | _, _ => some False
    | _, _, _, _ => some False
  | .call c => match c.callee, c.args.toList, o.dst with
    | .builtin .append, [x, y], some d => match elemTy ti c.argTypes, ρ σ.sl x, ρ σ.sl y with
      | some ety, some u, some v => match tailOf ety.size v with
        | some es' => bif Nat.ble ety.bytes 65536 && Nat.blt 0 ety.size && Nat.beq ety.zero.length ety.size then (match u with
          | .ts sz es n => some (bif (Nat.beq sz ety.size || (Nat.beq sz 0 && es.isEmpty)) && (match look n σ.mem with | some (.tail t _) => Nat.beq t (elemId ti c.argTypes) | _ => false) then es.length + es'.length ≤ 1073741824 ∧ K ⟨(d, .ts ety.size (es ++ es') n) :: downs n σ.sl, (n, .tail (elemId ti c.argTypes) (tailB n σ.mem)) :: downm n σ.mem, σ.nx⟩ else False)
          | .tg sz es => some (bif Nat.beq sz ety.size || es.isEmpty then es.length + es'.length ≤ 1073741824 ∧ K ⟨(d, .ts ety.size (es ++ es') σ.nx) :: σ.sl, (σ.nx, .tail (elemId ti c.argTypes) false) :: σ.mem, σ.nx + 1⟩ else False)
          | .nl sz => some (es'.length ≤ 1073741824 ∧ K ⟨(d, .ts ety.size es' σ.nx) :: σ.sl, (σ.nx, .tail (elemId ti c.argTypes) true) :: σ.mem, σ.nx + 1⟩)
          | .vx sz n i len => some (match look n σ.mem with
            | some (.vec t sz' es _) => bif Nat.beq i 0 && Nat.beq sz ety.size && Nat.beq sz' ety.size && Nat.beq t (elemId ti c.argTypes) then (len ≤ es.length ∧ len + es'.length ≤ 1073741824) ∧ LetE (es.take len ++ es') fun l => LetN (len + es'.length) fun z => K ⟨(d, .vx ety.size n 0 z) :: downs n σ.sl, (n, .vec (elemId ti c.argTypes) ety.size l false) :: downm n σ.mem, σ.nx⟩ else False
            | _ => False)
          | _ => some False) else some False
        | none => match u, v with
          | .tg sz es, .vx sz' n i len => some (match look n σ.mem with
            | some (.vec t sz'' es2 _) => bif (Nat.ble ety.bytes 65536 && Nat.blt 0 ety.size && Nat.beq ety.zero.length ety.size) && (Nat.beq sz' ety.size && Nat.beq sz'' ety.size && (Nat.beq sz ety.size || es.isEmpty)) then (i + len ≤ es2.length ∧ es.length + len ≤ 1073741824) ∧ LetE (es ++ (es2.drop i).take len) fun l => K ⟨(d, .ts ety.size l σ.nx) :: σ.sl, (σ.nx, .tail (elemId ti c.argTypes) false) :: σ.mem, σ.nx + 1⟩ else False
            | _ => False)
          | _, _ => some False
      | _, _, _ => some False
    | .builtin .unsafeString, [x, y], some d => match ρ σ.sl x, ρ σ.sl y with
      | some (.sd es n), some (.d (.it .i64 m)) => some (match look n σ.mem, (c.argTypes[0]?).bind ti with
        | some (.tail t b), some ⟨.ptr e, _, _, _, _, _⟩ => match ti e with
          | some ⟨.int .u8, 1, _, _, _, _⟩ => bif Nat.beq t e then ∃ l, (es = bytesD l ∧ m = l.length ∧ l.length ≤ 9223372036854775807) ∧ K ⟨(d, .d (.st l)) :: downs n σ.sl, (n, .tail t b) :: downm n σ.mem, σ.nx⟩ else False
          | _ => False
        | _, _ => False)
      | some (.d (.ot (.pointer none))), some (.d (.it .i64 0)) => some (match c.argTypes[0]? with | some _ => K ⟨(d, .d (.st [])) :: σ.sl, σ.mem, σ.nx⟩ | none => False)
      | _, _ => some False
    | _, _, _ => none
  | _ => none

/-- What lies behind a vector's known elements. -/
structure CapE (sz : Nat) (K : List (List D) → Prop) : Prop where
  run : ∀ ext : List (List D), (∀ x ∈ ext, x.length = sz) → K ext

/-- The elements' type of append(s, make(s, n)...), which comes with the number. -/
def makeTy (ti : Nat → Option Ty) (ats : Array TypeId) : Option (Nat × Ty) :=
  match ats[0]?, ats[1]? with
  | some t, some t1 => match ti t, ti t1 with
    | some ⟨.slice e, _, _, _, _, _⟩, some ⟨.int _, _, _, _, _, _⟩ => match ti e with
      | some ety => some (e, ety)
      | none => none
    | _, _ => none
  | _, _ => none

def okTy (ety : Ty) : Bool := Nat.ble ety.bytes 65536 && Nat.blt 0 ety.size && Nat.beq ety.zero.length ety.size

/-- Operations on vectors. -/
def evVec (P : Program) (ti : Nat → Option Ty) (o : Oper) (σ : S) (K : S → Prop) : Option Prop :=
  match o.op with
  | .call c => match c.callee, c.args.toList, o.dst with
    | .builtin .cap, [x], some d => match ρ σ.sl x, (c.argTypes[0]?).bind ti with
      | some (.vx sz n i len), some ⟨.slice _, _, _, _, _, _⟩ => some (match look n σ.mem with
        | some (.vec t sz' es fl) => bif Nat.beq i 0 && Nat.beq sz' sz && Nat.blt 0 sz then (bif fl then K ⟨(d, .d (.it .i64 (es.length : Nat))) :: σ.sl, (n, .vec t sz es true) :: σ.mem, σ.nx⟩ else CapE sz fun ext => K ⟨(d, .d (.it .i64 (es.length + ext.length : Nat))) :: σ.sl, (n, .vec t sz (es ++ ext) true) :: σ.mem, σ.nx⟩) else False
        | _ => False)
      | _, _ => none
    | .builtin .copy, [x, y], some d => match ρ σ.sl x, elemTy ti c.argTypes, ρ σ.sl y with
      | some (.vx sz n i len), some ety, some v => some (match look n σ.mem with
        | some (.vec t sz' es fl) => bif Nat.beq sz ety.size && Nat.beq sz' ety.size && Nat.blt 0 ety.size then (match tailOf ety.size v with
          | some es' => (i + len ≤ es.length ∧ es'.length ≤ len) ∧ LetE (es.take i ++ es' ++ es.drop (i + es'.length)) fun l => K ⟨(d, .d (.it .i64 (es'.length : Nat))) :: σ.sl, (n, .vec t ety.size l fl) :: σ.mem, σ.nx⟩
          | none => match v with
            | .vx sz2 n2 i2 len2 => match look n2 σ.mem with
              | some (.vec _ sz3 es2 _) => bif Nat.beq sz2 ety.size && Nat.beq sz3 ety.size then (i + len ≤ es.length ∧ i2 + len2 ≤ es2.length) ∧ LetN (Nat.min len2 len) fun q => LetE (es.take i ++ (es2.drop i2).take q ++ es.drop (i + q)) fun l => K ⟨(d, .d (.it .i64 (q : Nat))) :: σ.sl, (n, .vec t ety.size l fl) :: σ.mem, σ.nx⟩ else False
              | _ => False
            | _ => False) else False
        | _ => False)
      | _, _, _ => none
    | .builtin .append, [x, y], some d => match ρ σ.sl x, ρ σ.sl y with
      | some (.vx sz n i len), some (.d (.it k z)) => some (match makeTy ti c.argTypes, look n σ.mem with
        | some (e, ety), some (.vec t sz' es fl) => bif fl && Nat.beq i 0 && Nat.beq sz ety.size && Nat.beq sz' ety.size && okTy ety then (0 ≤ z ∧ len ≤ es.length ∧ es.length < len + z.toNat ∧ len + z.toNat ≤ 1073741824) ∧ LetE (es.take len ++ List.replicate z.toNat ety.zero) fun l => LetN (len + z.toNat) fun q => K ⟨(d, .vx ety.size σ.nx 0 q) :: σ.sl, (σ.nx, .vec e ety.size l false) :: σ.mem, σ.nx + 1⟩ else False
        | _, _ => False)
      | some (.vx sz n i len), some (.vx sz' n' i' len') => some (match elemTy ti c.argTypes, look n σ.mem, look n' σ.mem with
        | some ety, some (.vec t sz2 es _), some (.vec _ sz3 es2 _) => bif okTy ety && (Nat.beq i 0 && Nat.beq sz ety.size && Nat.beq sz2 ety.size && Nat.beq t (elemId ti c.argTypes)) && (Nat.beq sz' ety.size && Nat.beq sz3 ety.size) then (len ≤ es.length ∧ i' + len' ≤ es2.length ∧ len + len' ≤ 1073741824) ∧ LetE (es.take len ++ (es2.drop i').take len') fun l => LetN (len + len') fun z => K ⟨(d, .vx ety.size n 0 z) :: downs n σ.sl, (n, .vec (elemId ti c.argTypes) ety.size l false) :: downm n σ.mem, σ.nx⟩ else False
        | _, _, _ => False)
      | some (.tg sz es), some v => match evEff P ti o σ K, elemTy ti c.argTypes with
        | some p, some ety => match tailOf ety.size v with
          | some es' => bif okTy ety then some (NilS p (es = [] ∧ es'.length ≤ 1073741824 ∧ LetE es' fun l => LetN es'.length fun z => K ⟨(d, .vx ety.size σ.nx 0 z) :: σ.sl, (σ.nx, .vec (elemId ti c.argTypes) ety.size l false) :: σ.mem, σ.nx + 1⟩)) else none
          | none => none
        | _, _ => none
      | _, _ => none
    | _, _, _ => none
  | .buildSlice t n parts => match o.dst, ti t, partsD (ρ σ.sl) parts.toList with
    | some d, some ⟨.slice e, _, _, _, _, _⟩, some ps => match ti e with
      | some ety => bif okTy ety && Nat.blt 0 n && (Nat.ble (n * ety.size) 16777216 && ps.all (fun p => Nat.blt p.1 n)) then (match fillD (fun i => bif Nat.blt i n then some (i * ety.size, ety.size) else none) (zeros n ety.zero) ps with
        | some l => some (NilS (evV P ti σ.mem (ρ σ.sl) o (fun v => K (σ.put o.dst v))) (LetE (chunk ety.size n l) fun es => K ⟨(d, .vx ety.size σ.nx 0 n) :: σ.sl, (σ.nx, .vec e ety.size es false) :: σ.mem, σ.nx + 1⟩))
        | none => none) else none
      | none => none
    | _, _, _ => none
  | _ => none

/-- What stands once an operation is through. -/
def OpOK (P : Program) (N : Nat) (o : Oper) (σ : S) (K : S → Prop) : Prop :=
  ∀ (κ : Ctx) (g : Gh) (a : Act) (w : World), St κ N g σ a w → ∀ (next : Act → World → Prop) (Q : Exit → Act → World → Prop), (∀ g' σ' a' w', K σ' → St κ N g' σ' a' w' → next a' w') → o.wpIn (wd κ.rd) 0 P a w next Q

/-- The operation is a call of function f at these values; of the function that a range hands on. -/
structure CallF (N : Nat) (o : Oper) (σ : S) (f : Nat) (l : List AV) : Prop where
  ex : ∃ x args ats first cap l', o.op = .call ⟨.value x, args, ats⟩ ∧ ρ σ.sl x = some (.fn (.func f) first cap) ∧ argsA (ρ σ.sl) args.toList = some l' ∧ l = first ++ l' ++ cap
  dst : ∀ d, o.dst = some d → d < N
structure YieldF (N : Nat) (o : Oper) (σ : S) (n : Nat) (l : List AV) : Prop where
  ex : ∃ x args ats, o.op = .call ⟨.value x, args, ats⟩ ∧ ρ σ.sl x = some (.yld n) ∧ argsA (ρ σ.sl) args.toList = some l
  dst : ∀ d, o.dst = some d → d < N

/-- A call that is entered. -/
structure CallI (P : Program) (N : Nat) (o : Oper) (σ : S) (f : Nat) (l : List AV) (K : S → Prop) : Prop where
  run : CallF N o σ f l → OpOK P N o σ K
structure YieldI (P : Program) (N : Nat) (o : Oper) (σ : S) (n : Nat) (l : List AV) (K : S → Prop) : Prop where
  run : YieldF N o σ n l → OpOK P N o σ K
/-- A call by a contract, or entered. -/
structure CallE (A B : Prop) : Prop where
  run : A ∨ B
theorem CallE.con {P : Program} {f : Nat} {l : List AV} {K : AV → Prop} {B : Prop} (h : ∃ r, FnC P f l r ∧ K r) : CallE (CallP P f l K) B := ⟨.inl ⟨h⟩⟩
theorem CallE.inl {A B : Prop} (h : B) : CallE A B := ⟨.inr h⟩

/-- A call of a function of the program, or of a range's own. -/
def evCall (P : Program) (N : Nat) (o : Oper) (σ : S) (K : S → Prop) : Option Prop :=
  match o.op with
  | .call ⟨.value x, args, ats⟩ => match ρ σ.sl x, argsA (ρ σ.sl) args.toList with
    | some (.fn (.func f) first cap), some l => match x, argsP (ρ σ.sl) args.toList with
      | .func _, some l' => some (CallE (CallP P f l' fun v => K (σ.put o.dst v)) (CallI P N o σ f (first ++ l ++ cap) K))
      | _, _ => some (CallI P N o σ f (first ++ l ++ cap) K)
    | some (.yld n), some l => some (YieldI P N o σ n l K)
    | _, _ => none
  | _ => none

/-- One operation. -/
def evOp (P : Program) (ti : Nat → Option Ty) (N : Nat) (o : Oper) (σ : S) (K : S → Prop) : Prop :=
  bif (match o.dst with | some d => Nat.blt d N | none => true) then
    match evCall P N o σ K with
    | some p => p
    | none => match evVec P ti o σ K with
    | some p => p
    | none => match evEff P ti o σ K with
    | some p => p
    | none => evV P ti σ.mem (ρ σ.sl) o (fun v => K (σ.put o.dst v))
  else False

theorem put_tmps (a : Act) (d : Nat) (v : Value) : (a.put (some d) v).tmps = a.tmps.setIfInBounds d v := rfl
theorem put_defers (a : Act) (d : Option Nat) (v : Value) : (a.put d v).defers = a.defers := by cases d <;> rfl

theorem getD_set (xs : Array Value) (d k : Nat) (v : Value) (h : d < xs.size) : (xs.setIfInBounds d v).getD k undef = if k = d then v else xs.getD k undef := by
  by_cases hk : k = d
  · subst hk; simp [Array.getD, h]
  · rw [if_neg hk]
    simp only [Array.getD, Array.size_setIfInBounds]
    by_cases h2 : k < xs.size
    · rw [dif_pos h2, dif_pos h2]
      have h3 : k < (xs.setIfInBounds d v).size := by simpa using h2
      show (xs.setIfInBounds d v)[k]'h3 = xs[k]
      rw [Array.getElem_setIfInBounds, if_neg (Ne.symm hk)]
    · rw [dif_neg h2, dif_neg h2]

/-- A slot is set, more is frozen, new names. -/
theorem St.put {κ : Ctx} {N : Nat} {g g' : Gh} {σ : S} {a : Act} {w w' : World} {d : Nat} {v : AV} {u : Value} {mem : List (Nat × Ob)} {nx : Nat} (h : St κ N g σ a w) (hd : d < N) (he : Ext σ.nx g g') (hi : Inv κ g' mem w') (hv : AVR g' v u)
    (hok : (S.mk ((d, v) :: σ.sl) mem nx).ok = true) : St κ N g' ⟨(d, v) :: σ.sl, mem, nx⟩ (a.put (some d) u) w' := by
  refine ⟨by simp [put_tmps, h.size], by rw [put_defers]; exact h.defers, fun k x hk => ?_, hi, hok⟩
  rw [put_tmps, getD_set _ _ _ _ (by rw [h.size]; exact hd)]
  rw [look_cons] at hk
  by_cases hkd : k = d
  · rw [if_pos hkd] at hk ⊢; obtain rfl := Option.some.inj hk; exact hv
  · rw [if_neg hkd] at hk ⊢; exact (h.sl k x hk).ext he (S.ok_sl h.ok hk)

theorem S.ok_iff {σ : S} : σ.ok = true ↔ (∀ p ∈ σ.sl, p.2.lt σ.nx = true) ∧ ∀ p ∈ σ.mem, p.1 < σ.nx ∧ p.2.lt σ.nx = true := by
  simp only [S.ok, Bool.and_eq_true, List.all_eq_true, Nat.blt_eq]

theorem Ob.lt_mono {m m' : Nat} {o : Ob} (h : o.lt m = true) (hm : m ≤ m') : o.lt m' = true := by
  cases o with
  | cells size c =>
    simp only [Ob.lt, List.all_eq_true] at h ⊢
    exact fun x hx => AV.lt1_mono (h x hx) hm
  | tail => rfl
  | vec => rfl
  | tag =>
    simp only [Ob.lt, Nat.blt_eq] at h ⊢
    omega
  | frame sz l =>
    simp only [Ob.lt, List.all_eq_true] at h ⊢
    exact fun x hx => AV.lt_mono (h x hx) hm
  | loop =>
    simp only [Ob.lt, Nat.blt_eq] at h ⊢
    omega

theorem S.ok_cons {σ : S} {d : Nat} {v : AV} {mem : List (Nat × Ob)} {nx : Nat} (h : σ.ok = true) (hnx : σ.nx ≤ nx) (hv : v.lt nx = true) (hm : ∀ p ∈ mem, p.1 < nx ∧ p.2.lt nx = true) : (S.mk ((d, v) :: σ.sl) mem nx).ok = true := by
  rw [S.ok_iff] at h ⊢
  refine ⟨fun p hp => ?_, hm⟩
  rcases List.mem_cons.1 hp with rfl | hp
  · exact hv
  · exact AV.lt_mono (h.1 p hp) hnx

theorem S.ok_memAll {σ : S} (h : σ.ok = true) : ∀ p ∈ σ.mem, p.1 < σ.nx ∧ p.2.lt σ.nx = true := (S.ok_iff.1 h).2

/-- The names below the first new one: as they were. -/
theorem evVal_OpOK {P : Program} {ti : Nat → Option Ty} {N : Nat} {o : Oper} {σ : S} {K : S → Prop} (hti : TiOK P ti) (hd : ∀ d, o.dst = some d → d < N) (h : evV P ti σ.mem (ρ σ.sl) o (fun v => K (σ.put o.dst v))) : OpOK P N o σ K := by
  intro κ g a w hst next Q hn
  obtain ⟨v, hK, hlt, hdoes⟩ := evV_sound (nx := σ.nx) hti (fun x v hx => ρ_lt hst.ok hx) (fun n ob hl => S.ok_mem hst.ok hl) h
  refine hdoes κ g a w hst.inv (fun x _ v hx => ρ_ok hst.sl hx) next Q fun g' u w' he hi' hv => ?_
  refine hn g' _ _ _ hK ?_
  cases hdst : o.dst with
  | none =>
    show St κ N g' σ a w'
    exact ⟨hst.size, hst.defers, fun k x hk => (hst.sl k x hk).ext he (S.ok_sl hst.ok hk), hi', hst.ok⟩
  | some d => exact hst.put (hd d hdst) he hi' hv (S.ok_cons hst.ok (Nat.le_refl _) hlt (S.ok_memAll hst.ok))

/-- A new block of cells under a new name. -/
theorem Inv.newCells {κ : Ctx} {g : Gh} {σ : S} {w w' : World} {arr : Array Value} {T : TypeId} {c : List AV} (hi : Inv κ g σ.mem w) (hok : σ.ok = true) (hw : w'.heap = w.heap.push (.cells arr T (0, 0))) (h1 : w'.os = w.os) (h2 : w'.tape = w.tape) (h3 : w'.output = w.output)
    (hc : c.length = arr.size) (hsc : ∀ j (h : j < c.length), c[j].sc = true) (hl : ∀ x ∈ c, x.lt1 σ.nx = true) (hr : ∀ j (h : j < c.length), AVR g c[j] (arr.getD j undef)) :
    ∃ g', Ext σ.nx g g' ∧ g'.blk σ.nx = w.heap.size ∧ Inv κ g' ((σ.nx, .cells arr.size c) :: σ.mem) w' := by
  have hmem : ∀ n ob, look n σ.mem = some ob → n < σ.nx ∧ ob.lt σ.nx = true := fun n ob h => S.ok_mem hok h
  let g' : Gh := { g with blk := fun n => if n = σ.nx then w.heap.size else g.blk n }
  have he : Ext σ.nx g g' := ⟨fun _ _ _ h => h, fun n hn => if_neg (by omega), fun _ _ => rfl, fun _ _ => rfl, fun _ _ => rfl⟩
  have hold : ∀ b o v, g.F b o = some v → b < w.heap.size := fun b o v h => World.block_lt_of_cell? w ⟨b, o, none⟩ (hi.frz b o v h)
  have hcell : ∀ b o v, g.F b o = some v → w'.cell? ⟨b, o, none⟩ = some v := fun b o v h => by
    have hc := hi.frz _ _ _ h
    have hlt := hold _ _ _ h
    simp only [World.cell?] at hc ⊢
    rw [hw, Array.getElem?_push, if_neg (by omega)]; exact hc
  have hi' : Inv κ g' σ.mem w' := hi.grow hmem he (by rw [hw]; simp) (fun b hb => by rw [hw, Array.getElem?_push, if_neg (by omega)]) (fun b o v h => .inl h) hcell h1 h2 h3
  refine ⟨g', he, if_pos rfl, ?_⟩
  have hlook : ∀ n, look n ((σ.nx, Ob.cells arr.size c) :: σ.mem) = if n = σ.nx then some (.cells arr.size c) else look n σ.mem := fun n => look_cons _ _ _ _
  have on : ∀ n, n ≠ σ.nx → On g' ((σ.nx, .cells arr.size c) :: σ.mem) n → On g' σ.mem n := fun n hn h => by
    unfold On at h ⊢; rw [hlook, if_neg hn] at h; exact h
  have blt : ∀ n, On g' σ.mem n → g'.blk n < w.heap.size := fun n h => by
    unfold On at h
    cases hl : look n σ.mem with
    | none => rw [hl] at h; exact h.elim
    | some ob =>
      have hob := hi.obs n ob hl
      rw [he.blk n (hmem n ob hl).1]
      have lt_of : ∀ {x : Obj}, w.heap[g.blk n]? = some x → g.blk n < w.heap.size := fun h => by
        rcases Nat.lt_or_ge (g.blk n) w.heap.size with h' | h'
        · exact h'
        · rw [Array.getElem?_eq_none h'] at h; cases h
      cases ob with
      | cells => obtain ⟨a', T', e1, _⟩ := hob; exact lt_of e1
      | tail =>
        rw [hl] at h
        obtain ⟨a', T', e1, _⟩ := hob.1 h
        exact lt_of e1
      | vec =>
        rw [hl] at h
        obtain ⟨a', e1, _⟩ := hob.2.2 h
        exact lt_of e1
      | tag => rw [hl] at h; exact h.elim
      | frame => rw [hl] at h; exact h.elim
      | loop => obtain ⟨_, fn, D, e⟩ := hob; exact lt_of e
  refine ⟨hi'.frz, fun n ob hn => ?_, fun n m hnm h h' => ?_, hi'.size, hi'.pres, fun n h => ?_, hi'.f0, hi'.fnew, hi'.os, hi'.tape, hi'.output, hi'.dfr⟩
  · rw [hlook] at hn
    by_cases hnn : n = σ.nx
    · subst hnn
      rw [if_pos rfl] at hn
      obtain rfl := Option.some.inj hn
      refine ⟨arr, T, ?_, rfl, hc, hsc, fun j hj => (hr j hj).ext1 he (hl _ (List.getElem_mem hj)), fun o => ?_⟩
      · show w'.heap[if σ.nx = σ.nx then w.heap.size else g.blk σ.nx]? = _
        rw [if_pos rfl, hw]; simp
      · show g.F (if σ.nx = σ.nx then w.heap.size else g.blk σ.nx) o = none
        rw [if_pos rfl]
        cases hq : g.F w.heap.size o with
        | none => rfl
        | some v => have := hold _ _ _ hq; omega
    · rw [if_neg hnn] at hn; exact hi'.obs n ob hn
  · have hb : g'.blk σ.nx = w.heap.size := if_pos rfl
    by_cases hn : n = σ.nx
    · subst hn
      have := blt m (on m (Ne.symm hnm) h')
      omega
    · by_cases hm : m = σ.nx
      · subst hm
        have := blt n (on n hn h)
        omega
      · exact hi'.inj n m hnm (on n hn h) (on m hm h')
  · by_cases hn : n = σ.nx
    · subst hn
      have hb : g'.blk σ.nx = w.heap.size := if_pos rfl
      rw [hb]; exact .inl hi.size
    · exact hi'.own n (on n hn h)
end Go.Sy

/- New variables and stores do what they say. Conditions: none. -/
namespace Go.Sy
set_option linter.unusedVariables false
set_option linter.unusedSimpArgs false

section
variable {P : Program} {ti : Nat → Option Ty} {N : Nat} {o : Oper} {σ : S} {K : S → Prop}

theorem lt_self_ptr (m off : Nat) : (AV.ptr m off).lt (m + 1) = true := by simp [AV.lt, AV.lt2, AV.lt1, AV.lt0]

theorem Inv.addTag {κ : Ctx} {g : Gh} {mem : List (Nat × Ob)} {w : World} {n m t : Nat} {arr : Array Value} {fz : Nat × Nat} (hi : Inv κ g mem w) (h : w.heap[g.blk m]? = some (.cells arr t fz)) : Inv κ g ((n, .tag m t) :: mem) w := by
  have on : ∀ k, On g ((n, .tag m t) :: mem) k → On g mem k := fun k h => by
    unfold On at h ⊢
    rw [look_cons] at h
    by_cases hk : k = n
    · rw [if_pos hk] at h; exact h.elim
    · rw [if_neg hk] at h; exact h
  refine ⟨hi.frz, fun k ob hk => ?_, fun k k' hkk h h' => hi.inj k k' hkk (on k h) (on k' h'), hi.size, hi.pres, fun k h => hi.own k (on k h), hi.f0, hi.fnew, hi.os, hi.tape, hi.output, hi.dfr⟩
  rw [look_cons] at hk
  by_cases hkn : k = n
  · rw [if_pos hkn] at hk
    obtain rfl := Option.some.inj hk
    exact ⟨arr, fz, h⟩
  · rw [if_neg hkn] at hk; exact hi.obs k ob hk

theorem new_OpOK {d k : Nat} {e : TypeId} {l : List AV} (hd : o.dst = some d) (hdN : d < N)
    (hrun : ∀ (κ : Ctx) (g : Gh) (a : Act) (w : World), St κ N g σ a w → ∃ arr : Array Value, (execOp a.eval o).run P w = .ok (.value (.pointer (some ⟨w.heap.size, 0, none⟩))) (w.alloc (.cells arr e)) ∧ arr.size = k ∧ l.length = k ∧ (∀ j (h : j < l.length), l[j].sc = true) ∧ (∀ x ∈ l, x.lt1 σ.nx = true) ∧ ∀ j (h : j < l.length), AVR g l[j] (arr.getD j undef))
    (hK : K ⟨(d, .ptr σ.nx 0) :: σ.sl, (σ.nx, .cells k l) :: σ.mem, σ.nx + 1⟩) : OpOK P N o σ K := by
  intro κ g a w hst next Q hn
  obtain ⟨arr, hr, e1, e2, e3, e4, e5⟩ := hrun κ g a w hst
  obtain ⟨g', he, hb, hi'⟩ := hst.inv.newCells (w' := w.alloc (.cells arr e)) hst.ok rfl rfl rfl rfl (e2.trans e1.symm) e3 e4 e5
  refine wp_value hr (hn g' _ _ _ hK ?_)
  rw [hd]
  rw [e1] at hi'
  refine hst.put hdN he hi' (by rw [← hb]; exact .ptr _ _) (S.ok_cons hst.ok (Nat.le_succ _) (lt_self_ptr _ _) fun p hp => ?_)
  rcases List.mem_cons.1 hp with rfl | hp
  · refine ⟨Nat.lt_succ_self _, ?_⟩
    simp only [Ob.lt, List.all_eq_true]
    exact fun x hx => AV.lt1_mono (e4 x hx) (Nat.le_succ _)
  · have := S.ok_memAll hst.ok p hp
    exact ⟨by omega, Ob.lt_mono this.2 (Nat.le_succ _)⟩

theorem newT_OpOK {d k : Nat} {e : TypeId} {l : List AV} (hd : o.dst = some d) (hdN : d < N)
    (hrun : ∀ (κ : Ctx) (g : Gh) (a : Act) (w : World), St κ N g σ a w → ∃ arr : Array Value, (execOp a.eval o).run P w = .ok (.value (.pointer (some ⟨w.heap.size, 0, none⟩))) (w.alloc (.cells arr e)) ∧ arr.size = k ∧ l.length = k ∧ (∀ j (h : j < l.length), l[j].sc = true) ∧ (∀ x ∈ l, x.lt1 σ.nx = true) ∧ ∀ j (h : j < l.length), AVR g l[j] (arr.getD j undef))
    (hK : K ⟨(d, .ptr σ.nx 0) :: σ.sl, (σ.nx + 1, .tag σ.nx e) :: (σ.nx, .cells k l) :: σ.mem, σ.nx + 2⟩) : OpOK P N o σ K := by
  intro κ g a w hst next Q hn
  obtain ⟨arr, hr, e1, e2, e3, e4, e5⟩ := hrun κ g a w hst
  obtain ⟨g', he, hb, hi'⟩ := hst.inv.newCells (w' := w.alloc (.cells arr e)) hst.ok rfl rfl rfl rfl (e2.trans e1.symm) e3 e4 e5
  refine wp_value hr (hn g' _ _ _ hK ?_)
  rw [hd]
  rw [e1] at hi'
  have hok' : (S.mk σ.sl ((σ.nx, .cells k l) :: σ.mem) (σ.nx + 1)).ok = true := by
    refine S.ok_iff.2 ⟨fun p hp => AV.lt_mono ((S.ok_iff.1 hst.ok).1 p hp) (Nat.le_succ _), fun p hp => ?_⟩
    rcases List.mem_cons.1 hp with rfl | hp
    · refine ⟨Nat.lt_succ_self _, ?_⟩
      simp only [Ob.lt, List.all_eq_true]
      exact fun x hx => AV.lt1_mono (e4 x hx) (Nat.le_succ _)
    · have := S.ok_memAll hst.ok p hp
      exact ⟨by show p.1 < σ.nx + 1; omega, Ob.lt_mono this.2 (Nat.le_succ _)⟩
  have hi2 := hi'.addTag (n := σ.nx + 1) (m := σ.nx) (t := e) (arr := arr) (fz := (0, 0)) (by rw [hb]; exact World.alloc_heap_new _ _)
  refine hst.put hdN he hi2 (by rw [← hb]; exact .ptr _ _) (S.ok_cons hst.ok (by omega) (AV.lt_mono (lt_self_ptr _ _) (Nat.le_succ _)) fun p hp => ?_)
  rcases List.mem_cons.1 hp with rfl | hp
  · refine ⟨by show σ.nx + 1 < σ.nx + 2; omega, ?_⟩
    simp only [Ob.lt, Nat.blt_eq]; omega
  · have := S.ok_memAll hok' p hp
    exact ⟨Nat.lt_succ_of_lt this.1, Ob.lt_mono this.2 (Nat.le_succ _)⟩

theorem box_OpOK {d k e : Nat} {x : Operand} {v : AV} {ty : Ty} {l : List AV} (hop : o.op = .box e x) (hd : o.dst = some d) (hdN : d < N) (hx : ρ σ.sl x = some v) (hc : cellsA v = some (k, l)) (hK : K ⟨(d, .ptr σ.nx 0) :: σ.sl, (σ.nx, .cells k l) :: σ.mem, σ.nx + 1⟩) : OpOK P N o σ K := by
  refine new_OpOK (e := e) hd hdN (fun κ g a w hst => ?_) hK
  obtain ⟨q1, q2, q3, q4, q5⟩ := cellsA_ok hc (ρ_ok hst.sl hx) (ρ_lt hst.ok hx)
  refine ⟨(a.eval x).cells, ?_, q1, q2, q3, q4, q5⟩
  simp only [execOp, hop, Instr.box, newVar, newRow, Sem.run_bind, run_newObj, Sem.run_pure, Result.andThen_ok]
  rfl

theorem alloc_OpOK {d e : Nat} {ty : Ty} (hti : TiOK P ti) (hop : o.op = .alloc e) (hd : o.dst = some d) (hdN : d < N) (ht : ti e = some ty) (hz : ty.zero.length = ty.size) (h0 : 0 < ty.size) (hK : K ⟨(d, .ptr σ.nx 0) :: σ.sl, (σ.nx, .cells ty.size (ty.zero.map toA)) :: σ.mem, σ.nx + 1⟩) : OpOK P N o σ K := by
  obtain ⟨u, i, ht⟩ := tyOf_ok (hti _ _ ht)
  refine new_OpOK (e := e) hd hdN (fun κ g a w hst => ?_) hK
  obtain ⟨zv, hzv, hLR, hLA⟩ := zeroL_ok (g := g) (z := i.zero) (h := slH P 6 e) (by rw [ht.zero]; omega)
  rw [ht.zero] at hLR hLA
  refine ⟨zv.cells, ?_, by rw [← hLR.1, hz], by simpa using hz, fun j hj => by simp only [List.getElem_map]; exact toA_sc _, fun x hx => ?_, hLA.2⟩
  · simp only [execOp, hop, Instr.alloc, newVar, newRow, zeroValue, Sem.run_bind, run_typeInfo' ht.info, hzv, run_newObj, Sem.run_pure, Result.andThen_ok]
    rfl
  · obtain ⟨y, _, rfl⟩ := List.mem_map.1 hx; exact toA_lt _ _

theorem allocT_OpOK {d e : Nat} {ty : Ty} (hti : TiOK P ti) (hop : o.op = .alloc e) (hd : o.dst = some d) (hdN : d < N) (ht : ti e = some ty) (hz : ty.zero.length = ty.size) (h0 : 0 < ty.size) (hK : K ⟨(d, .ptr σ.nx 0) :: σ.sl, (σ.nx + 1, .tag σ.nx e) :: (σ.nx, .cells ty.size (ty.zero.map toA)) :: σ.mem, σ.nx + 2⟩) : OpOK P N o σ K := by
  obtain ⟨u, i, ht⟩ := tyOf_ok (hti _ _ ht)
  refine newT_OpOK (e := e) hd hdN (fun κ g a w hst => ?_) hK
  obtain ⟨zv, hzv, hLR, hLA⟩ := zeroL_ok (g := g) (z := i.zero) (h := slH P 6 e) (by rw [ht.zero]; omega)
  rw [ht.zero] at hLR hLA
  refine ⟨zv.cells, ?_, by rw [← hLR.1, hz], by simpa using hz, fun j hj => by simp only [List.getElem_map]; exact toA_sc _, fun x hx => ?_, hLA.2⟩
  · simp only [execOp, hop, Instr.alloc, newVar, newRow, zeroValue, Sem.run_bind, run_typeInfo' ht.info, hzv, run_newObj, Sem.run_pure, Result.andThen_ok]
    rfl
  · obtain ⟨y, _, rfl⟩ := List.mem_map.1 hx; exact toA_lt _ _

theorem nil_OpOK {d sz tt : Nat} (hop : o.op = .assign (.const (.slice none 0 0))) (hd : o.dst = some d) (hdN : d < N) (hK : K ⟨(d, .ts sz [] σ.nx) :: σ.sl, (σ.nx, .tail tt true) :: σ.mem, σ.nx + 1⟩) : OpOK P N o σ K := by
  intro κ g a w hst next Q hn
  have hmem : ∀ n ob, look n σ.mem = some ob → n < σ.nx ∧ ob.lt σ.nx = true := fun n ob h => S.ok_mem hst.ok h
  have hr : (execOp a.eval o).run P w = .ok (.value (.slice none 0 0)) w := by simp only [execOp, hop, Act.eval, Sem.run_pure]
  let g' : Gh := { g with has := fun n => if n = σ.nx then false else g.has n, hi := fun n => if n = σ.nx then 0 else g.hi n }
  have he : Ext σ.nx g g' := ⟨fun _ _ _ h => h, fun _ _ => rfl, fun n hn => if_neg (by omega), fun _ _ => rfl, fun n hn => if_neg (by omega)⟩
  have hi' : Inv κ g' σ.mem w := hst.inv.grow hmem he (Nat.le_refl _) (fun _ _ => rfl) (fun b o v h => .inl h) (fun b o v h => hst.inv.frz b o v h) rfl rfl rfl
  have hlook : ∀ n, look n ((σ.nx, Ob.tail tt true) :: σ.mem) = if n = σ.nx then some (.tail tt true) else look n σ.mem := fun n => look_cons _ _ _ _
  have hno : ¬ On g' ((σ.nx, .tail tt true) :: σ.mem) σ.nx := by
    unfold On; rw [hlook, if_pos rfl]
    show ¬ (if σ.nx = σ.nx then false else g.has σ.nx) = true
    rw [if_pos rfl]; simp
  have on : ∀ n, On g' ((σ.nx, .tail tt true) :: σ.mem) n → On g' σ.mem n := fun n h => by
    by_cases hn : n = σ.nx
    · subst hn; exact (hno h).elim
    · unfold On at h ⊢; rw [hlook, if_neg hn] at h; exact h
  refine wp_value hr (hn g' _ _ _ hK ?_)
  rw [hd]
  refine hst.put hdN he ⟨hi'.frz, fun n ob hn => ?_, fun n m hnm h h' => hi'.inj n m hnm (on n h) (on m h'), hi'.size, hi'.pres, fun n h => hi'.own n (on n h), hi'.f0, hi'.fnew, hi'.os, hi'.tape, hi'.output, hi'.dfr⟩ (.ts0 _ _ _ _ _ rfl (.fs0 _ _ _) (if_pos rfl) (fun _ => ⟨rfl, rfl⟩)) ?_
  · rw [hlook] at hn
    by_cases hnn : n = σ.nx
    · subst hnn
      rw [if_pos rfl] at hn
      obtain rfl := Option.some.inj hn
      refine ⟨fun hh => ?_, fun _ _ => if_pos rfl⟩
      have : (if σ.nx = σ.nx then false else g.has σ.nx) = true := hh
      rw [if_pos rfl] at this; cases this
    · rw [if_neg hnn] at hn; exact hi'.obs n ob hn
  · refine S.ok_cons hst.ok (Nat.le_succ _) (by simp [AV.lt, AV.lt2, AV.lt1, AV.lt0]) fun p hp => ?_
    rcases List.mem_cons.1 hp with rfl | hp
    · exact ⟨Nat.lt_succ_self _, rfl⟩
    · have := S.ok_memAll hst.ok p hp
      exact ⟨by omega, Ob.lt_mono this.2 (Nat.le_succ _)⟩

theorem run_eql_slice {tp te : TypeId} (w : World) (a : Option Addr) (l c : Nat) (hp : P.underlying tp = some (.slice te)) : (binOp .eql tp (.slice a l c) (.slice none 0 0)).run P w = .ok (.bool a.isNone) w := by
  have h : ∀ d : Nat, (Op.equalIn (d + 1) tp (.slice a l c) (.slice none 0 0)).run P w = .ok a.isNone w := fun d => by
    cases a <;> simp [Op.equalIn, run_underlying hp]
  simp only [binOp]
  simp [Op.equal, Op.maxDepth, h 9999]

/-- A slice compared with nil: one that is empty may be it, or not. -/
theorem nilcmp_OpOK {t t' e d sz : Nat} {x : Operand} {ty : Ty} {v : AV} {es : List (List D)} (hti : TiOK P ti) (hop : o.op = .binOp .eql t x (.const (.slice none 0 0)) t') (hd : o.dst = some d) (hdN : d < N) (ht : ti t = some ty) (hk : ty.kd = .slice e) (hx : ρ σ.sl x = some v) (hs : sliceOf v = some (sz, es))
    (hK : Spl es.isEmpty (Both (K (σ.put (some d) (.d (.bl true)))) (K (σ.put (some d) (.d (.bl false))))) (K (σ.put (some d) (.d (.bl false))))) : OpOK P N o σ K := by
  intro κ g a w hst next Q hn
  obtain ⟨u, i, ht⟩ := tyOf_ok (hti _ _ ht)
  obtain rfl := slice_of ht hk
  have hdr := sliceOf_ok hs (ρ_ok hst.sl hx)
  have hq : ∃ ad len cap, a.eval x = .slice ad len cap ∧ (ad.isNone = true → es = []) := by
    generalize a.eval x = q at hdr
    cases hdr with
    | fs0 => exact ⟨_, _, _, rfl, fun _ => rfl⟩
    | fs => exact ⟨_, _, _, rfl, fun h => by cases h⟩
  obtain ⟨ad, len, cap, hv, hnil⟩ := hq
  have hr : (execOp a.eval o).run P w = .ok (.value (.bool ad.isNone)) w := by
    have h2 : a.eval (.const (.slice none 0 0)) = .slice none 0 0 := rfl
    have hg : (eqGuard .eql t x (.const (.slice none 0 0)) (.slice ad len cap) (.slice none 0 0)).run P w = .ok () w := by rfl
    simp only [execOp, hop, hv, h2, Sem.run_bind, hg, Result.andThen_ok, run_eql_slice w ad len cap ht.und, Sem.run_pure]
  refine wp_value hr (hn g (σ.put (some d) (.d (.bl ad.isNone))) _ _ ?_ ?_)
  · cases hn' : ad.isNone with
    | true =>
      have := hnil hn'
      subst this
      exact (hK.t rfl).l
    | false =>
      cases he : es.isEmpty with
      | true => exact (hK.t he).r
      | false => exact hK.f he
  · rw [hd]
    exact hst.put hdN (.refl _ _) hst.inv (.d _ _ (.bl _)) (S.ok_cons hst.ok (Nat.le_refl _) rfl (S.ok_memAll hst.ok))

/-- A variable's cells are written. -/
theorem Inv.write {κ : Ctx} {g : Gh} {mem : List (Nat × Ob)} {w : World} {n size : Nat} {c c' : List AV} {arr arr' : Array Value} {T : TypeId} (hi : Inv κ g mem w) (hn : look n mem = some (.cells size c)) (hw : w.heap[g.blk n]? = some (.cells arr T (0, 0))) (h1 : arr'.size = size) (h2 : c'.length = size)
    (h3 : ∀ j (h : j < c'.length), c'[j].sc = true) (h4 : ∀ j (h : j < c'.length), AVR g c'[j] (arr'.getD j undef)) : Inv κ g ((n, .cells size c') :: mem) (w.setRow (g.blk n) arr') := by
  have hlook : ∀ m, look m ((n, Ob.cells size c') :: mem) = if m = n then some (.cells size c') else look m mem := fun m => look_cons _ _ _ _
  have hon : On g mem n := by unfold On; rw [hn]; trivial
  have on : ∀ m, On g ((n, .cells size c') :: mem) m → On g mem m := fun m h => by
    by_cases hm : m = n
    · subst hm; exact hon
    · unfold On at h ⊢; rw [hlook, if_neg hm] at h; exact h
  obtain ⟨_, _, _, _, _, _, _, hF⟩ := hi.obs n _ hn
  refine ⟨fun b o v h => ?_, fun m ob hm => ?_, fun m m' hmm h h' => hi.inj m m' hmm (on m h) (on m' h'), by rw [setRow_size]; exact hi.size, fun b hb hm => ?_, fun m h => hi.own m (on m h), hi.f0, hi.fnew, hi.os, hi.tape, hi.output, fun D hD => by rw [setRow_other _ _ _ _ (fun e => by have := hi.dfr D hD; rw [e, hw] at this; cases this)]; exact hi.dfr D hD⟩
  · rw [cell_setRow_other _ _ _ _ (by
      show b ≠ g.blk n
      rintro rfl; rw [hF] at h; cases h)]
    exact hi.frz b o v h
  · rw [hlook] at hm
    by_cases hmn : m = n
    · subst hmn
      rw [if_pos rfl] at hm
      obtain rfl := Option.some.inj hm
      exact ⟨arr', T, setRow_heap w _ _ _ _ _ hw, h1, h2, h3, h4, hF⟩
    · rw [if_neg hmn] at hm
      have hob := hi.obs m ob hm
      cases ob with
      | cells s c =>
        have hne : g.blk m ≠ g.blk n := hi.inj m n hmn (by unfold On; rw [hm]; trivial) hon
        obtain ⟨a', T', e1, er⟩ := hob
        exact ⟨a', T', by rw [setRow_other _ _ _ _ hne]; exact e1, er⟩
      | tag m' t' =>
        obtain ⟨a', fz', e⟩ := hob
        by_cases hb : g.blk m' = g.blk n
        · rw [hb, hw] at e
          cases e
          exact ⟨_, _, by rw [hb]; exact setRow_heap w _ _ _ _ _ hw⟩
        · exact ⟨a', fz', by rw [setRow_other _ _ _ _ hb]; exact e⟩
      | vec t' sz' es' f' => exact VecOK.mono hob (fun _ _ _ h => h) rfl rfl rfl rfl (fun hh => setRow_other _ _ _ _ (hi.inj m n hmn (by unfold On; rw [hm]; exact hh) hon)) (fun _ _ h => h)
      | tail =>
        refine ⟨fun hh => ?_, hob.2⟩
        have hne : g.blk m ≠ g.blk n := hi.inj m n hmn (by unfold On; rw [hm]; exact hh) hon
        obtain ⟨a', T', e1, er⟩ := hob.1 hh
        exact ⟨a', T', by rw [setRow_other _ _ _ _ hne]; exact e1, er⟩
      | frame sz l => exact hob
      | loop k ps asg body st pd =>
        have hne : g.blk m ≠ g.blk n := hi.inj m n hmn (by unfold On; rw [hm]; trivial) hon
        obtain ⟨fn, D, e⟩ := hob
        exact ⟨fn, D, by rw [setRow_other _ _ _ _ hne]; exact e⟩
  · have hne : b ≠ g.blk n := by
      rintro rfl
      rcases hi.own n hon with h | h
      · omega
      · exact hm h
    rw [setRow_other _ _ _ _ hne]; exact hi.pres b hb hm

theorem getD_splice (xs ys : Array Value) (off j : Nat) (h : off + ys.size ≤ xs.size) (hj : j < xs.size) : ((xs.toList.take off ++ ys.toList ++ xs.toList.drop (off + ys.size)).toArray).getD j undef = if off ≤ j ∧ j < off + ys.size then ys.getD (j - off) undef else xs.getD j undef := by
  have hlen : (xs.toList.take off ++ ys.toList ++ xs.toList.drop (off + ys.size)).length = xs.size := by simp; omega
  have e1 : ∀ (A : Array Value) (i : Nat) (h : i < A.size), A.getD i undef = A[i] := fun A i h => by rw [Array.getD, dif_pos h]; rfl
  rw [e1 _ _ (by simpa using (by omega : j < (xs.toList.take off ++ ys.toList ++ xs.toList.drop (off + ys.size)).length))]
  simp only [List.getElem_toArray]
  by_cases h1 : j < off
  · rw [if_neg (by omega), e1 _ _ hj, List.getElem_append_left (by simp; omega), List.getElem_append_left (by simp; omega), List.getElem_take]; simp
  · by_cases h2 : j < off + ys.size
    · rw [if_pos ⟨by omega, h2⟩, e1 _ _ (by omega), List.getElem_append_left (by simp; omega), List.getElem_append_right (by simp; omega)]
      simp only [List.length_take, Array.length_toList, Array.getElem_toList]
      congr 1; omega
    · rw [if_neg (by omega), e1 _ _ hj, List.getElem_append_right (by simp; omega), List.getElem_drop]
      simp only [Array.getElem_toList]
      congr 1; simp; omega

theorem store_OpOK {t n off size k : Nat} {x y : Operand} {v : AV} {ty : Ty} {c l : List AV} (hti : TiOK P ti) (hop : o.op = .store t x y) (hdst : ∀ d, o.dst = some d → d < N) (ht : ti t = some ty) (hx : ρ σ.sl x = some (.ptr n off)) (hy : ρ σ.sl y = some v) (hm : look n σ.mem = some (.cells size c)) (hc : cellsA v = some (k, l))
    (hk : k = ty.size) (hle : off + k ≤ size) (hno : o.dst = none) (hK : K ⟨σ.sl, (n, .cells size (c.take off ++ l ++ c.drop (off + k))) :: σ.mem, σ.nx⟩) : OpOK P N o σ K := by
  obtain ⟨u, i, ht⟩ := tyOf_ok (hti _ _ ht)
  intro κ g a w hst next Q hn
  obtain ⟨q1, q2, q3, q4, q5⟩ := cellsA_ok hc (ρ_ok hst.sl hy) (ρ_lt hst.ok hy)
  have hx' := ρ_ok hst.sl hx
  generalize ha : a.eval x = p at hx'
  cases hx' with | ptr => ?_
  obtain ⟨arr, T, e1, e2, e3, e4, e5, e6⟩ := hst.inv.obs n _ hm
  have hone : ∀ v ∈ (a.eval y).cells.toList, v.oneCell' = true := fun v hv => by
    obtain ⟨j, hj, rfl⟩ := List.mem_iff_getElem.1 hv
    have hj' : j < l.length := by simp at hj; omega
    have := (q5 j hj').one (q3 j hj')
    simpa [Array.getD, show j < (a.eval y).cells.size by simpa using hj] using this
  have hst' := run_storeCells_at P (g.blk n) off T (a.eval y).cells.toList 0 arr w e1 (by simp; omega) hone
  have hr : (execOp a.eval o).run P w = .ok .skip (w.setRow (g.blk n) (arr.toList.take (off + 0) ++ (a.eval y).cells.toList ++ arr.toList.drop (off + 0 + (a.eval y).cells.toList.length)).toArray) := by
    simp only [execOp, hop, ha, Instr.storeAt, Instr.sureAddr, storeVar, Sem.run_bind, Sem.run_pure, Result.andThen_ok, run_sizeOf' ht.info, ht.size, Sem.run_ite]
    rw [if_neg (by omega), hst']
    rfl
  simp only [Nat.add_zero, Array.length_toList] at hr
  refine wp_skipped hr (hn g _ _ _ hK ?_)
  rw [hno]
  refine ⟨hst.size, hst.defers, hst.sl, hst.inv.write hm e1 (by simp; omega) (by simp; omega) (fun j hj => ?_) fun j hj => ?_, ?_⟩
  · have := List.getElem_mem hj
    rcases List.mem_append.1 this with h | h
    · rcases List.mem_append.1 h with h | h
      · obtain ⟨j', hj', he⟩ := List.mem_iff_getElem.1 (List.mem_of_mem_take h); rw [← he]; exact e4 _ _
      · obtain ⟨j', hj', he⟩ := List.mem_iff_getElem.1 h; rw [← he]; exact q3 _ _
    · obtain ⟨j', hj', he⟩ := List.mem_iff_getElem.1 (List.mem_of_mem_drop h); rw [← he]; exact e4 _ _
  · have hj' : j < size := by simp only [List.length_append, List.length_take, List.length_drop] at hj; omega
    rw [getD_splice _ _ _ _ (by omega) (by omega)]
    by_cases h1 : j < off
    · rw [if_neg (by omega), List.getElem_append_left (by simp; omega), List.getElem_append_left (by simp; omega), List.getElem_take]
      exact e5 _ _
    · by_cases h2 : j < off + k
      · rw [if_pos (by omega), List.getElem_append_left (by simp; omega), List.getElem_append_right (by simp; omega)]
        have := q5 (j - off) (by omega)
        simpa [show min off c.length = off by omega] using this
      · rw [if_neg (by omega), List.getElem_append_right (by simp; omega), List.getElem_drop]
        have := e5 j (by omega)
        have e : off + k + (j - (List.take off c ++ l).length) = j := by simp; omega
        simpa only [e] using this
  · rw [S.ok_iff]
    refine ⟨(S.ok_iff.1 hst.ok).1, fun p hp => ?_⟩
    rcases List.mem_cons.1 hp with rfl | hp
    · have h0 := S.ok_mem hst.ok hm
      refine ⟨h0.1, ?_⟩
      simp only [Ob.lt, List.all_eq_true] at h0 ⊢
      intro x hx
      rcases List.mem_append.1 hx with h | h
      · rcases List.mem_append.1 h with h | h
        · exact h0.2 x (List.mem_of_mem_take h)
        · exact q4 x h
      · exact h0.2 x (List.mem_of_mem_drop h)
    · exact S.ok_memAll hst.ok p hp

theorem lt_self_ms (sz m off len cap : Nat) : (AV.ms sz m off len cap).lt (m + 1) = true := by simp [AV.lt, AV.lt2, AV.lt1, AV.lt0]

theorem newS_OpOK {d k sz len cap : Nat} {e : TypeId} {l : List AV} (hd : o.dst = some d) (hdN : d < N) (hlc : len ≤ cap)
    (hrun : ∀ (κ : Ctx) (g : Gh) (a : Act) (w : World), St κ N g σ a w → ∃ arr : Array Value, (execOp a.eval o).run P w = .ok (.value (.slice (some ⟨w.heap.size, 0, none⟩) len cap)) (w.alloc (.cells arr e)) ∧ arr.size = k ∧ l.length = k ∧ (∀ j (h : j < l.length), l[j].sc = true) ∧ (∀ x ∈ l, x.lt1 σ.nx = true) ∧ ∀ j (h : j < l.length), AVR g l[j] (arr.getD j undef))
    (hK : K ⟨(d, .ms sz σ.nx 0 len cap) :: σ.sl, (σ.nx, .cells k l) :: σ.mem, σ.nx + 1⟩) : OpOK P N o σ K := by
  intro κ g a w hst next Q hn
  obtain ⟨arr, hr, e1, e2, e3, e4, e5⟩ := hrun κ g a w hst
  obtain ⟨g', he, hb, hi'⟩ := hst.inv.newCells (w' := w.alloc (.cells arr e)) hst.ok rfl rfl rfl rfl (e2.trans e1.symm) e3 e4 e5
  refine wp_value hr (hn g' _ _ _ hK ?_)
  rw [hd]
  rw [e1] at hi'
  refine hst.put hdN he hi' (by rw [← hb]; exact .ms _ _ _ _ _ _ (fun _ => rfl) hlc) (S.ok_cons hst.ok (Nat.le_succ _) (lt_self_ms _ _ _ _ _) fun p hp => ?_)
  rcases List.mem_cons.1 hp with rfl | hp
  · refine ⟨Nat.lt_succ_self _, ?_⟩
    simp only [Ob.lt, List.all_eq_true]
    exact fun x hx => AV.lt1_mono (e4 x hx) (Nat.le_succ _)
  · have := S.ok_memAll hst.ok p hp
    exact ⟨by omega, Ob.lt_mono this.2 (Nat.le_succ _)⟩

theorem make_OpOK {d t e : Nat} {x y : Operand} {kl kc : IntKind} {len cap : Int} {ty ety : Ty} (hti : TiOK P ti) (hop : o.op = .makeSlice t x y) (hd : o.dst = some d) (hdN : d < N) (ht : ti t = some ty) (hk : ty.kd = .slice e) (he : ti e = some ety) (hx : ρ σ.sl x = some (.d (.it kl len))) (hy : ρ σ.sl y = some (.d (.it kc cap)))
    (hz : ety.zero.length = ety.size) (h0 : 0 < ety.size) (hb : 0 ≤ len ∧ len ≤ cap ∧ cap ≤ 281474976710656 ∧ ety.bytes * cap ≤ 281474976710656)
    (hK : K ⟨(d, .ms ety.size σ.nx 0 len.toNat cap.toNat) :: σ.sl, (σ.nx, .cells (cap.toNat * ety.size) ((zeros cap.toNat ety.zero).map toA)) :: σ.mem, σ.nx + 1⟩) : OpOK P N o σ K := by
  obtain ⟨u, i, ht⟩ := tyOf_ok (hti _ _ ht)
  obtain ⟨ue, ie, het⟩ := tyOf_ok (hti _ _ he)
  obtain rfl := slice_of ht hk
  refine newS_OpOK (e := e) hd hdN (by omega) (fun κ g a w hst => ?_) hK
  obtain ⟨zv, hzv, hLR, hLA⟩ := zeroL_ok (g := g) (z := ie.zero) (h := slH P 6 e) (by rw [het.zero]; omega)
  rw [het.zero] at hLR hLA
  have hzs : zv.cells.size = ety.size := by rw [← hLR.1, hz]
  have h1 := evalInt (ρ_ok hst.sl hx)
  have h2 := evalInt (ρ_ok hst.sl hy)
  refine ⟨Go.madeCells zv.cells (cap.toNat * ety.size), ?_, Go.size_madeCells _ _, by rw [List.length_map, zeros_length, hz], fun j hj => by simp only [List.getElem_map]; exact toA_sc _, fun v hv => ?_, fun j hj => ?_⟩
  · have hr := Go.run_make (P := P) w t e ie zv ht.und het.info hzv kl kc len cap hb.1 hb.2.1 (by rw [het.bytes]; exact hb.2.2.2) (by omega)
    rw [het.size] at hr
    simp only [execOp, hop, h1, h2, Sem.run_bind, hr, Result.andThen_ok, Sem.run_pure]
  · obtain ⟨z, _, rfl⟩ := List.mem_map.1 hv; exact toA_lt _ _
  · simp only [List.length_map] at hj
    simp only [List.getElem_map]
    obtain ⟨q1, q2⟩ := zeros_get _ _ _ hj
    rw [q2]
    have := hLA.2 (j % ety.zero.length) (by simpa using q1)
    simp only [List.getElem_map] at this
    have hjn : j < cap.toNat * ety.size := by rw [zeros_length, hz] at hj; exact hj
    have hmod : j % zv.cells.size < zv.cells.size := Nat.mod_lt _ (by omega)
    have e : (Go.madeCells zv.cells (cap.toNat * ety.size)).getD j undef = zv.cells.getD (j % ety.zero.length) undef := by
      rw [hz, ← hzs]
      simp [Go.madeCells, Array.getD, hjn, hzs, hmod, show j % ety.size < ety.size by rw [← hzs]; exact hmod]
    rw [e]; exact this
end
end Go.Sy

/- append does what it says. Conditions: none. -/
namespace Go.Sy
set_option linter.unusedVariables false
set_option linter.unusedSimpArgs false

section
variable {P : Program} {ti : Nat → Option Ty} {N : Nat} {o : Oper} {σ : S} {K : S → Prop}

theorem growBy_le (m : Nat) : ∀ (rounds c : Nat), c ≤ m + (m + 768) / 4 → Builtin.growBy m rounds c ≤ m + (m + 768) / 4
  | 0, c, h => h
  | r + 1, c, h => by
    simp only [Builtin.growBy]
    split
    · exact h
    · refine growBy_le m r _ ?_
      have : (c + 768) / 4 ≤ (m + 768) / 4 := Nat.div_le_div_right (by omega)
      omega

theorem next_le (need cap : Nat) (h : cap < need) : Builtin.nextslicecap need cap ≤ 2 * need + 192 := by
  unfold Builtin.nextslicecap
  split
  · omega
  · split
    · omega
    · refine Nat.le_trans (growBy_le need 4 cap (by omega)) ?_
      omega

structure AppTy (P : Program) (ats : Array TypeId) (e : Nat) (i : TypeInfo) : Prop where
  ex : ∃ t t' d, ats[0]? = some t ∧ ats[1]? = some t' ∧ P.underlying t = some (.slice e) ∧ P.underlying t' = some d ∧ ∀ k, d ≠ .int k
  info : P.info? e = some i

def storeBase : Option Addr → Nat → List Value → Sem Unit
  | some a, k, vs => storeCells (a.add k) vs
  | none, _, _ => pure ()

theorem run_append_in {ats : Array TypeId} {e : Nat} {i : TypeInfo} (ht : AppTy P ats e i) (ty : TypeId) {base : Option Addr} {sLen sCap n : Nat} {x : Value} {news : Array Value} {w w' : World} (hlen : (Builtin.lenOf x).run P w = .ok n w) (hfirst : (Builtin.firstCells i.size n x).run P w = .ok news w)
    (hle : sLen + n ≤ sCap) (hst : (storeBase base (sLen * i.size) news.toList).run P w = .ok () w') :
    (Builtin.append_ ats ty #[.slice base sLen sCap, x]).run P w = .ok (.slice base (sLen + n) sCap) w' := by
  obtain ⟨t, t', d, e0, e1, e2, e3, e4⟩ := ht.ex
  have hd : (d matches .int _) = false := by cases d <;> first | rfl | exact absurd rfl (e4 _)
  have g0 : (#[Value.slice base sLen sCap, x] : Array Value)[0]? = some (.slice base sLen sCap) := rfl
  have g1 : (#[Value.slice base sLen sCap, x] : Array Value)[1]? = some x := rfl
  simp only [Builtin.append_, e0, e1, g0, g1, Sem.run_bind, run_underlying e2, run_underlying e3, Result.andThen_ok, run_sizeOf' ht.info, Sem.run_pure, hd, Bool.false_eq_true, if_false, hlen, if_pos hle, Bool.not_false, if_true, hfirst, Sem.run_ite]
  cases base with
  | none =>
    simp only [storeBase, Sem.run_pure, Result.ok.injEq, true_and] at hst
    subst hst; rfl
  | some a =>
    simp only [storeBase] at hst
    simp only [Sem.run_bind, hst, Result.andThen_ok, Sem.run_pure]

theorem run_append_new {ats : Array TypeId} {e : Nat} {i : TypeInfo} (ht : AppTy P ats e i) (ty : TypeId) {base : Option Addr} {sLen sCap n : Nat} {x : Value} {olds news zv : Array Value} {w : World} (hlen : (Builtin.lenOf x).run P w = .ok n w) (hfirst : ∀ w', w'.heap = w.heap → (Builtin.firstCells i.size n x).run P w' = .ok news w')
    (hold : ∀ w', w'.heap = w.heap → (Builtin.firstCells i.size sLen (.slice base sLen sCap)).run P w' = .ok olds w') (hle : sCap < sLen + n) (hlim : sLen + n ≤ 1073741824) (hb : i.bytes ≤ 65536) {z : Value} (hz : i.zero = some z) :
    ∃ cap rest, sLen + n ≤ cap ∧ rest = Builtin.zeroCells z.cells (cap - (sLen + n)) ∧ (Builtin.append_ ats ty #[.slice base sLen sCap, x]).run P w = .ok (.slice (some ⟨w.heap.size, 0, none⟩) (sLen + n) cap) (w.drew.alloc (.cells (olds ++ news ++ rest) e)) := by
  obtain ⟨t, t', d, e0, e1, e2, e3, e4⟩ := ht.ex
  have hd : (d matches .int _) = false := by cases d <;> first | rfl | exact absurd rfl (e4 _)
  have g0 : (#[Value.slice base sLen sCap, x] : Array Value)[0]? = some (.slice base sLen sCap) := rfl
  have g1 : (#[Value.slice base sLen sCap, x] : Array Value)[1]? = some x := rfl
  have hmax : IntKind.i64.max = 9223372036854775807 := by decide
  have c1 : ¬ (((sLen + n : Nat) : Int) > IntKind.i64.max ∧ (false = true ∨ i.bytes = 0)) := by rw [hmax]; omega
  have c2 : ¬ Builtin.nextslicecap (sLen + n) sCap * i.bytes > 2 ^ 48 := by
    have h1 := next_le (sLen + n) sCap hle
    have h2 : Builtin.nextslicecap (sLen + n) sCap * i.bytes ≤ (2 * (sLen + n) + 192) * 65536 := Nat.mul_le_mul h1 hb
    have h3 : (2 * (sLen + n) + 192) * 65536 ≤ 2 ^ 48 := by omega
    omega
  refine ⟨(Question.appendCap (sLen + n) sCap e).cut (w.tape w.drawn (.appendCap (sLen + n) sCap e)), _, Nat.le_add_right _ _, rfl, ?_⟩
  have hf : (Question.appendCap (sLen + n) sCap e).forced = false := rfl
  simp only [Builtin.append_, e0, e1, g0, g1, Sem.run_bind, run_underlying e2, run_underlying e3, Result.andThen_ok, run_sizeOf' ht.info, Sem.run_pure, hd, Bool.false_eq_true, if_false, hlen, if_neg (Nat.not_le.2 hle), run_typeInfo' ht.info, Sem.run_ite, c1, c2, run_choose, hf, run_askRoom, Bool.not_false, if_true]
  have c1' : ¬ (((sLen + n : Nat) : Int) > IntKind.i64.max ∧ i.bytes = 0) := by rw [hmax]; omega
  simp only [false_or, if_neg c1', World.drew_eq]
  rw [hold w.drew rfl]
  simp only [Result.andThen_ok]
  rw [hfirst w.drew rfl]
  simp only [Result.andThen_ok, zeroValue, Sem.run_bind, run_typeInfo' ht.info, hz, Sem.run_pure, newRow, run_newObj, World.size_drew]
  rfl
end
end Go.Sy
