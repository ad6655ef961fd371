/- A computing verification layer for data, proved sound over the library: what a body comes to, by its literal code. Conditions: none. -/
import Derived.WalkKit
import Derived.Laws.CopyRow
import Derived.RangeFuncLeaves
import Derived.RangeFuncRecord
import Derived.OrdersIn
import Derived.LoopNIn
import Derived.Laws.IdiomStrings
import Derived.Laws.StructEq
set_option linter.all false
/- The abstract states of the Sym layer, and what they say of a world. Conditions: none. -/
namespace Go.Sy
set_option linter.unusedVariables false

/-- Data that nothing writes to any more. -/
inductive D where
  | bl (b : Bool)
  | it (k : IntKind) (n : Int)
  | st (l : List UInt8)
  | ot (v : Value)
  | fs (sz : Nat) (es : List (List D))
  | fp (k : Nat) (cs : List D)

/-- What a slot, or a cell, holds. -/
inductive AV where
  | d (x : D)
  | dg (k : Nat) (cs : List D)
  | ag (k : Nat) (cs : List AV)
  | tup (vs : List AV)
  | ptr (n off : Nat)
  | ms (sz n off len cap : Nat)
  | ts (sz : Nat) (es : List (List D)) (n : Nat)
  | tg (sz : Nat) (es : List (List D))
  /-- the nil slice -/
  | nl (sz : Nat)
  /-- the pointer to an open byte slice's data -/
  | sd (es : List (List D)) (n : Nat)
  | fn (f : Fn) (first cap : List AV)
  /-- the function by which a range over a function is handed on -/
  | yld (n : Nat)
  /-- a part of a vector: from element i, so many -/
  | vx (sz n i len : Nat)
  /-- a pointer into element k of a vector -/
  | vq (sz n k off : Nat)
  | jk
  | junk

inductive Ob where
  | cells (size : Nat) (c : List AV)
  /-- the block of an open slice, of cells of type t; b: where the slice is empty and has no block, it is nil -/
  | tail (t : Nat) (b : Bool)
  /-- a slice's elements, that are written only by way of this name; of cells of type t -/
  | vec (t sz : Nat) (es : List (List D)) (f : Bool)
  /-- the block of name m has cells of type t -/
  | tag (m t : Nat)
  /-- the slots of an activation that waits: how many they are and one more; 0: it waits no longer -/
  | frame (sz : Nat) (l : List (Nat × AV))
  /-- the record of a range over a function: whose frame, what it runs, how it stands -/
  | loop (k : Nat) (ps : Array Nat) (asg body : Code) (st : LoopState) (pd : Option Code)

structure S where
  sl : List (Nat × AV)
  mem : List (Nat × Ob)
  nx : Nat

def look {α : Type} (k : Nat) : List (Nat × α) → Option α
  | [] => none
  | (a, b) :: t => bif Nat.beq k a then some b else look k t

/-- Ghosts: frozen cells; a name's block; of an open slice's block: how many cells are used, how many there are; whether there is one. -/
structure Gh where
  F : Nat → Nat → Option Value
  blk : Nat → Nat
  hi : Nat → Nat
  cp : Nat → Nat
  has : Nat → Bool

inductive DR (F : Nat → Nat → Option Value) : D → Value → Prop
  | bl (b : Bool) : DR F (.bl b) (.bool b)
  | it (k : IntKind) (n : Int) : DR F (.it k n) (.int k n)
  | st (l : List UInt8) : DR F (.st l) (.string ⟨l.toArray⟩)
  | ot (v : Value) (h : v.oneCell' = true) : DR F (.ot v) v
  | fs0 (sz : Nat) (a : Option Addr) (cap : Nat) : DR F (.fs sz []) (.slice a 0 cap)
  | fs (sz : Nat) (es : List (List D)) (b off len cap : Nat) (vs : Nat → Nat → Value) (hl : es.length = len) (hc : len ≤ cap)
      (hs : ∀ i (h : i < es.length), es[i].length = sz) (hF : ∀ i j, i < len → j < sz → F b (off + i * sz + j) = some (vs i j))
      (hr : ∀ i (h : i < es.length) j (hj : j < es[i].length), DR F es[i][j] (vs i j)) : DR F (.fs sz es) (.slice (some ⟨b, off, none⟩) len cap)
  | fp (k : Nat) (cs : List D) (b off : Nat) (vs : Nat → Value) (hl : cs.length = k) (hF : ∀ j, j < k → F b (off + j) = some (vs j))
      (hr : ∀ j (h : j < cs.length), DR F cs[j] (vs j)) : DR F (.fp k cs) (.pointer (some ⟨b, off, none⟩))

def AV.sc : AV → Bool
  | .dg .. | .ag .. | .tup .. | .junk => false
  | _ => true

/-- A part of a vector: where it lies, what room it has. -/
def VxOK (g : Gh) (sz n i : Nat) (ad : Option Addr) (c : Nat) : Prop :=
  (g.has n = true → (i + c) * sz = g.cp n) ∧ (g.has n = false → i = 0 ∧ c = 0) ∧ (0 < c → ad = some ⟨g.blk n, g.hi n + i * sz, none⟩)
theorem VxOK.pos {g : Gh} {sz n i : Nat} {ad : Option Addr} {c : Nat} (h : VxOK g sz n i ad c) (hc : 0 < c) : g.has n = true ∧ ad = some ⟨g.blk n, g.hi n + i * sz, none⟩ ∧ (i + c) * sz = g.cp n := by
  obtain ⟨h1, h2, h3⟩ := h
  cases hh : g.has n with
  | true => exact ⟨rfl, h3 hc, h1 hh⟩
  | false => have := (h2 hh).2; omega

inductive AVR (g : Gh) : AV → Value → Prop
  | d (x : D) (v : Value) (h : DR g.F x v) : AVR g (.d x) v
  | dg (k : Nat) (cs : List D) (vs : Array Value) (h1 : vs.size = k) (h2 : cs.length = k) (h : ∀ j (h : j < cs.length), DR g.F cs[j] (vs.getD j undef)) : AVR g (.dg k cs) (.agg vs)
  | ag (k : Nat) (cs : List AV) (vs : Array Value) (h1 : vs.size = k) (h2 : cs.length = k) (h3 : ∀ j (h : j < cs.length), cs[j].sc = true)
      (h : ∀ j (h : j < cs.length), AVR g cs[j] (vs.getD j undef)) : AVR g (.ag k cs) (.agg vs)
  | tup (cs : List AV) (vs : Array Value) (h1 : vs.size = cs.length) (h : ∀ j (h : j < cs.length), AVR g cs[j] (vs.getD j undef)) : AVR g (.tup cs) (.tuple vs)
  | ptr (n off : Nat) : AVR g (.ptr n off) (.pointer (some ⟨g.blk n, off, none⟩))
  | ms (sz n off len cap : Nat) (ad : Option Addr) (had : 0 < cap → ad = some ⟨g.blk n, off, none⟩) (hc : len ≤ cap) : AVR g (.ms sz n off len cap) (.slice ad len cap)
  | ts0 (sz : Nat) (es : List (List D)) (n : Nat) (a : Option Addr) (len : Nat) (hl : es.length = len) (hd : DR g.F (.fs sz es) (.slice a len len)) (hh : g.has n = false) (hz : g.hi n = 0 → es = [] ∧ a = none) : AVR g (.ts sz es n) (.slice a len len)
  | ts (sz : Nat) (es : List (List D)) (n off len cap : Nat) (h0 : 0 < sz) (hn : g.has n = true) (hd : DR g.F (.fs sz es) (.slice (some ⟨g.blk n, off, none⟩) len cap)) (hl : es.length = len) (hc : len ≤ cap)
      (h1 : off + len * sz = g.hi n) (h2 : off + cap * sz = g.cp n) (hpos : 0 < len) : AVR g (.ts sz es n) (.slice (some ⟨g.blk n, off, none⟩) len cap)
  | tg (sz : Nat) (es : List (List D)) (a : Option Addr) (len : Nat) (hl : es.length = len) (hd : DR g.F (.fs sz es) (.slice a len len)) : AVR g (.tg sz es) (.slice a len len)
  | nl (sz : Nat) : AVR g (.nl sz) (.slice none 0 0)
  | sd (es : List (List D)) (n : Nat) (p : Option Addr) (h : es ≠ [] → ∃ off len cap, p = some ⟨g.blk n, off, none⟩ ∧ g.has n = true ∧ DR g.F (.fs 1 es) (.slice p len cap) ∧ es.length = len ∧ off + len = g.hi n) : AVR g (.sd es n) (.pointer p)
  | fn (f : Fn) (first cap : List AV) (vs ws : Array Value) (h1 : vs.size = first.length) (h2 : ws.size = cap.length) (h3 : ∀ j (h : j < first.length), AVR g first[j] (vs.getD j undef))
      (h4 : ∀ j (h : j < cap.length), AVR g cap[j] (ws.getD j undef)) : AVR g (.fn f first cap) (.func f vs ws)
  | yld (n : Nat) : AVR g (.yld n) (.func (.yield (g.blk n)) #[] #[])
  | vx (sz n i len : Nat) (ad : Option Addr) (c : Nat) (hc : len ≤ c) (had : VxOK g sz n i ad c) : AVR g (.vx sz n i len) (.slice ad len c)
  | vq (sz n k off : Nat) (h : g.has n = true) : AVR g (.vq sz n k off) (.pointer (some ⟨g.blk n, g.hi n + k * sz + off, none⟩))
  | jk (v : Value) (h : v.oneCell' = true) : AVR g .jk v
  | junk (v : Value) : AVR g .junk v

/-- All names in it are below a number: of a scalar that is no function; of a scalar; of a struct; of any. -/
def AV.lt0 (m : Nat) : AV → Bool
  | .d _ | .dg .. | .tg .. | .nl _ | .jk | .junk => true
  | .ptr n _ | .ms _ n _ _ _ | .ts _ _ n | .yld n | .sd _ n | .vx _ n _ _ | .vq _ n _ _ => Nat.blt n m
  | _ => false
def AV.lt1 (m : Nat) : AV → Bool
  | .fn _ a b => a.all (AV.lt0 m) && b.all (AV.lt0 m)
  | v => v.lt0 m
def AV.lt2 (m : Nat) : AV → Bool
  | .ag _ cs => cs.all (AV.lt1 m)
  | v => v.lt1 m
def AV.lt (m : Nat) : AV → Bool
  | .tup vs => vs.all (AV.lt2 m)
  | v => v.lt2 m

def Ob.lt (m : Nat) : Ob → Bool
  | .cells _ c => c.all (AV.lt1 m)
  | .tail .. => true
  | .vec .. => true
  | .tag k _ => Nat.blt k m
  | .frame _ l => l.all fun p => p.2.lt m
  | .loop k .. => Nat.blt k m

def S.ok (σ : S) : Bool := σ.sl.all (fun p => p.2.lt σ.nx) && σ.mem.all (fun p => Nat.blt p.1 σ.nx && p.2.lt σ.nx)

/-- Where a call began: its world, what was frozen, the blocks that it may write. -/
structure Ctx where
  w0 : World
  F0 : Nat → Nat → Option Value
  mod : List Nat
  /-- the round of a range over a function in which the activation stands -/
  rd : Option Nat
  /-- the marks among its deferred calls -/
  df : List Nat
  /-- the blocks of deferred calls, all empty -/
  dfb : List Nat
  /-- the slots of the activations that wait -/
  sv : Nat → Array Value
  /-- the blocks of the records of ranges -/
  lb : Nat → Nat

/-- What stands in a vector's block. -/
def VecOK (g : Gh) (w : World) (n t sz : Nat) (es : List (List D)) (f : Bool) : Prop :=
  (∀ x ∈ es, x.length = sz) ∧ (g.has n = false → es = []) ∧ (g.has n = true → ∃ arr : Array Value, w.heap[g.blk n]? = some (.cells arr t (0, 0)) ∧ g.hi n + g.cp n ≤ arr.size ∧ es.length * sz ≤ g.cp n ∧
    (∀ i (h : i < es.length) j (hj : j < es[i].length), DR g.F es[i][j] (arr.getD (g.hi n + i * sz + j) undef)) ∧ (∀ o, g.F (g.blk n) o = none) ∧ (f = true → es.length * sz = g.cp n) ∧ ∀ j, j < g.cp n → (arr.getD (g.hi n + j) undef).oneCell' = true)

def ObOK (κ : Ctx) (g : Gh) (w : World) (n : Nat) : Ob → Prop
  | .cells size c => ∃ arr T, w.heap[g.blk n]? = some (.cells arr T (0, 0)) ∧ arr.size = size ∧ c.length = size ∧ (∀ j (h : j < c.length), c[j].sc = true) ∧
      (∀ j (h : j < c.length), AVR g c[j] (arr.getD j undef)) ∧ ∀ o, g.F (g.blk n) o = none
  | .tail t b => (g.has n = true → ∃ (arr : Array Value) (_ : Unit), w.heap[g.blk n]? = some (.cells arr t (0, 0)) ∧ g.cp n ≤ arr.size ∧ g.hi n ≤ g.cp n ∧ ∀ o, g.hi n ≤ o → g.F (g.blk n) o = none) ∧ (b = true → g.has n = false → g.hi n = 0)
  | .vec t sz es f => VecOK g w n t sz es f
  | .tag m t => ∃ (arr : Array Value) (fz : Nat × Nat), w.heap[g.blk m]? = some (.cells arr t fz)
  | .frame sz l => (∀ m, sz = m + 1 → (κ.sv n).size = m) ∧ ∀ s v, look s l = some v → AVR g v ((κ.sv n).getD s undef)
  | .loop k ps asg body st pd => g.blk n = κ.lb n ∧ ∃ fn D, w.heap[g.blk n]? = some (.loop { state := st, pending := pd, fn := fn, tmps := κ.sv k, params := ps, assign := asg, body := body, defers := D })

/-- Has the name a block of its own? -/
def On (g : Gh) (mem : List (Nat × Ob)) (n : Nat) : Prop :=
  match look n mem with
  | none => False
  | some (.cells ..) => True
  | some (.tail ..) => g.has n = true
  | some (.vec ..) => g.has n = true
  | some (.tag ..) => False
  | some (.frame ..) => False
  | some (.loop ..) => True

/-- The mark that an outermost range over a function leaves among the deferred calls. -/
def mark (D : Nat) : Deferred := { target := .collected D, args := #[] }

/-- No fence, in a round or not. -/
def wd (r : Option Nat) : Fence := { fn := fun _ => True, depth := none, alive := false, round := r }

structure Inv (κ : Ctx) (g : Gh) (mem : List (Nat × Ob)) (w : World) : Prop where
  frz : ∀ b o v, g.F b o = some v → w.cell? ⟨b, o, none⟩ = some v
  obs : ∀ n o, look n mem = some o → ObOK κ g w n o
  inj : ∀ n m, n ≠ m → On g mem n → On g mem m → g.blk n ≠ g.blk m
  size : κ.w0.heap.size ≤ w.heap.size
  pres : ∀ b, b < κ.w0.heap.size → b ∉ κ.mod → w.heap[b]? = κ.w0.heap[b]?
  own : ∀ n, On g mem n → κ.w0.heap.size ≤ g.blk n ∨ g.blk n ∈ κ.mod
  f0 : ∀ b o v, κ.F0 b o = some v → g.F b o = some v
  fnew : ∀ b o v, g.F b o = some v → κ.F0 b o = some v ∨ κ.w0.heap.size ≤ b ∨ b ∈ κ.mod
  os : w.os = κ.w0.os
  tape : w.tape = κ.w0.tape
  output : w.output = κ.w0.output
  dfr : ∀ D ∈ κ.dfb, w.heap[D]? = some (.deferred (some []))

structure St (κ : Ctx) (N : Nat) (g : Gh) (σ : S) (a : Act) (w : World) : Prop where
  size : a.tmps.size = N
  defers : a.defers = κ.df.map mark
  sl : ∀ k v, look k σ.sl = some v → AVR g v (a.tmps.getD k undef)
  inv : Inv κ g σ.mem w
  ok : σ.ok = true

/-- More is frozen, the names below m are as they were. -/
structure Ext (m : Nat) (g g' : Gh) : Prop where
  F : ∀ b o v, g.F b o = some v → g'.F b o = some v
  blk : ∀ n, n < m → g'.blk n = g.blk n
  hi : ∀ n, n < m → g'.hi n = g.hi n
  cp : ∀ n, n < m → g'.cp n = g.cp n
  has : ∀ n, n < m → g'.has n = g.has n

theorem Ext.refl (m : Nat) (g : Gh) : Ext m g g := ⟨fun _ _ _ h => h, fun _ _ => rfl, fun _ _ => rfl, fun _ _ => rfl, fun _ _ => rfl⟩
theorem Ext.trans {m : Nat} {a b c : Gh} (h : Ext m a b) (k : Ext m b c) : Ext m a c :=
  ⟨fun _ _ _ x => k.F _ _ _ (h.F _ _ _ x), fun n x => (k.blk n x).trans (h.blk n x), fun n x => (k.hi n x).trans (h.hi n x), fun n x => (k.cp n x).trans (h.cp n x), fun n x => (k.has n x).trans (h.has n x)⟩
theorem Ext.mono {m m' : Nat} {a b : Gh} (h : Ext m a b) (hm : m' ≤ m) : Ext m' a b :=
  ⟨h.F, fun n x => h.blk n (by omega), fun n x => h.hi n (by omega), fun n x => h.cp n (by omega), fun n x => h.has n (by omega)⟩

theorem DR.mono {F F' : Nat → Nat → Option Value} (hF : ∀ b o v, F b o = some v → F' b o = some v) {x : D} {v : Value} (h : DR F x v) : DR F' x v := by
  induction h with
  | bl b => exact .bl b
  | it k n => exact .it k n
  | st l => exact .st l
  | ot v h => exact .ot v h
  | fs0 sz a cap => exact .fs0 sz a cap
  | fs sz es b off len cap vs hl hc hs hF' hr ih => exact .fs sz es b off len cap vs hl hc hs (fun i j hi hj => hF _ _ _ (hF' i j hi hj)) ih
  | fp k cs b off vs hl hF' hr ih => exact .fp k cs b off vs hl (fun j hj => hF _ _ _ (hF' j hj)) ih

theorem VecOK.mono {g g' : Gh} {w w' : World} {n t sz : Nat} {es : List (List D)} {f : Bool} (h : VecOK g w n t sz es f) (hF : ∀ b o v, g.F b o = some v → g'.F b o = some v) (hb : g'.blk n = g.blk n) (hh : g'.hi n = g.hi n) (hc : g'.cp n = g.cp n) (hs : g'.has n = g.has n)
    (hw : g.has n = true → w'.heap[g.blk n]? = w.heap[g.blk n]?) (hn : g.has n = true → ∀ o, g.F (g.blk n) o = none → g'.F (g.blk n) o = none) : VecOK g' w' n t sz es f := by
  obtain ⟨h1, h2, h3⟩ := h
  refine ⟨h1, fun hx => h2 (hs.symm.trans hx), fun hx => ?_⟩
  have hx' := hs.symm.trans hx
  obtain ⟨arr, e1, e2, e3, e4, e5, e6, e7⟩ := h3 hx'
  refine ⟨arr, by rw [hb, hw hx']; exact e1, by rw [hh, hc]; exact e2, by rw [hc]; exact e3, fun i hi j hj => by rw [hh]; exact (e4 i hi j hj).mono hF, fun o => by rw [hb]; exact hn hx' o (e5 o), fun hf => by rw [hc]; exact e6 hf, fun j hj => by rw [hc] at hj; rw [hh]; exact e7 j hj⟩

theorem DR.one {F : Nat → Nat → Option Value} {x : D} {v : Value} (h : DR F x v) : v.oneCell' = true := by
  cases h <;> first | rfl | assumption

theorem AVR.one {g : Gh} {x : AV} {v : Value} (h : AVR g x v) (hs : x.sc = true) : v.oneCell' = true := by
  cases h with
  | d x v h => exact h.one
  | dg => cases hs
  | ag => cases hs
  | tup => cases hs
  | junk => cases hs
  | jk _ h => exact h
  | _ => rfl

theorem AV.lt0_mono {m m' : Nat} {v : AV} (h : v.lt0 m = true) (hm : m ≤ m') : v.lt0 m' = true := by
  cases v <;> simp only [AV.lt0, Nat.blt_eq] at h ⊢ <;> first | trivial | omega
theorem AV.lt1_mono {m m' : Nat} {v : AV} (h : v.lt1 m = true) (hm : m ≤ m') : v.lt1 m' = true := by
  cases v with
  | fn f a b =>
    simp only [AV.lt1, List.all_eq_true, Bool.and_eq_true] at h ⊢
    exact ⟨fun x hx => AV.lt0_mono (h.1 x hx) hm, fun x hx => AV.lt0_mono (h.2 x hx) hm⟩
  | _ => simp only [AV.lt1] at h ⊢; exact AV.lt0_mono h hm
theorem AV.lt2_mono {m m' : Nat} {v : AV} (h : v.lt2 m = true) (hm : m ≤ m') : v.lt2 m' = true := by
  cases v with
  | ag k cs =>
    simp only [AV.lt2, List.all_eq_true] at h ⊢
    exact fun x hx => AV.lt1_mono (h x hx) hm
  | _ => simp only [AV.lt2] at h ⊢; exact AV.lt1_mono h hm
theorem AV.lt_mono {m m' : Nat} {v : AV} (h : v.lt m = true) (hm : m ≤ m') : v.lt m' = true := by
  cases v with
  | tup cs =>
    simp only [AV.lt, List.all_eq_true] at h ⊢
    exact fun x hx => AV.lt2_mono (h x hx) hm
  | _ => simp only [AV.lt] at h ⊢; exact AV.lt2_mono h hm

/-- What a value says stands when more is frozen and its names are as they were. -/
theorem AVR.ext0 {m : Nat} {g g' : Gh} (he : Ext m g g') {x : AV} {v : Value} (hl : x.lt0 m = true) (h : AVR g x v) : AVR g' x v := by
  cases h with
  | d x v h => exact .d x v (h.mono he.F)
  | dg k cs vs h1 h2 h => exact .dg k cs vs h1 h2 fun j hj => (h j hj).mono he.F
  | ag => cases hl
  | tup => cases hl
  | fn => cases hl
  | ptr n off =>
    simp only [AV.lt0, Nat.blt_eq] at hl
    rw [← he.blk n hl]; exact .ptr n off
  | ms sz n off len cap ad had hc =>
    simp only [AV.lt0, Nat.blt_eq] at hl
    exact .ms sz n off len cap ad (fun h => by rw [he.blk n hl]; exact had h) hc
  | ts0 _ _ n a len hl1 hd hh hz =>
    simp only [AV.lt0, Nat.blt_eq] at hl
    exact .ts0 _ _ _ a len hl1 (hd.mono he.F) ((he.has n hl).trans hh) fun h => hz ((he.hi n hl).symm.trans h)
  | ts sz es n off len cap h0 hn hd hl' hc h1 h2 hpos =>
    simp only [AV.lt0, Nat.blt_eq] at hl
    rw [← he.blk n hl] at hd ⊢
    exact .ts sz es n off len cap h0 ((he.has n hl).trans hn) (hd.mono he.F) hl' hc (h1.trans (he.hi n hl).symm) (h2.trans (he.cp n hl).symm) hpos
  | tg sz es a len hl' hd => exact .tg sz es a len hl' (hd.mono he.F)
  | nl sz => exact .nl sz
  | sd es n p h =>
    simp only [AV.lt0, Nat.blt_eq] at hl
    refine .sd es n p fun hne => ?_
    obtain ⟨off, len, cap, k1, k2, k3, k4, k5⟩ := h hne
    exact ⟨off, len, cap, by rw [he.blk n hl]; exact k1, (he.has n hl).trans k2, k3.mono he.F, k4, k5.trans (he.hi n hl).symm⟩
  | yld n =>
    simp only [AV.lt0, Nat.blt_eq] at hl
    rw [← he.blk n hl]; exact .yld n
  | vx sz n i len ad c hc had =>
    simp only [AV.lt0, Nat.blt_eq] at hl
    exact .vx sz n i len ad c hc (by unfold VxOK; rw [he.has n hl, he.blk n hl, he.hi n hl, he.cp n hl]; exact had)
  | vq sz n k off h =>
    simp only [AV.lt0, Nat.blt_eq] at hl
    rw [← he.blk n hl, ← he.hi n hl]; exact .vq sz n k off ((he.has n hl).trans h)
  | jk v h => exact .jk v h
  | junk v => exact .junk v
theorem AVR.ext1 {m : Nat} {g g' : Gh} (he : Ext m g g') {x : AV} {v : Value} (hl : x.lt1 m = true) (h : AVR g x v) : AVR g' x v := by
  by_cases hx : ∃ f a b, x = .fn f a b
  · obtain ⟨f, a, b, rfl⟩ := hx
    cases h with
    | fn f x1 x2 vs ws h1 h2 h3 h4 =>
      simp only [AV.lt1, List.all_eq_true, Bool.and_eq_true] at hl
      exact .fn _ _ _ vs ws h1 h2 (fun j hj => (h3 j hj).ext0 he (hl.1 _ (List.getElem_mem hj))) (fun j hj => (h4 j hj).ext0 he (hl.2 _ (List.getElem_mem hj)))
  · refine h.ext0 he ?_
    cases x <;> first | exact hl | exact absurd ⟨_, _, _, rfl⟩ hx
theorem AVR.ext2 {m : Nat} {g g' : Gh} (he : Ext m g g') {x : AV} {v : Value} (hl : x.lt2 m = true) (h : AVR g x v) : AVR g' x v := by
  by_cases hx : ∃ k cs, x = .ag k cs
  · obtain ⟨k, cs, rfl⟩ := hx
    cases h with
    | ag k cs vs h1 h2 h3 h =>
      simp only [AV.lt2, List.all_eq_true] at hl
      exact .ag k cs vs h1 h2 h3 fun j hj => (h j hj).ext1 he (hl _ (List.getElem_mem hj))
  · refine h.ext1 he ?_
    cases x <;> first | exact hl | exact absurd ⟨_, _, rfl⟩ hx
theorem AVR.ext {m : Nat} {g g' : Gh} (he : Ext m g g') {x : AV} {v : Value} (hl : x.lt m = true) (h : AVR g x v) : AVR g' x v := by
  by_cases hx : ∃ cs, x = .tup cs
  · obtain ⟨cs, rfl⟩ := hx
    cases h with
    | tup cs vs h1 h =>
      simp only [AV.lt, List.all_eq_true] at hl
      exact .tup cs vs h1 fun j hj => (h j hj).ext2 he (hl _ (List.getElem_mem hj))
  · refine h.ext2 he ?_
    cases x <;> first | exact hl | exact absurd ⟨_, rfl⟩ hx
theorem AV.lt_of_lt1 {m : Nat} {v : AV} (h : v.lt1 m = true) : v.lt m = true := by
  cases v <;> first | exact h | cases h

theorem look_mem {α : Type} {k : Nat} {l : List (Nat × α)} {x : α} (h : look k l = some x) : (k, x) ∈ l := by
  induction l with
  | nil => cases h
  | cons p t ih =>
    obtain ⟨a, b⟩ := p
    simp only [look] at h
    cases hk : Nat.beq k a with
    | true => rw [hk] at h; simp only [cond_true, Option.some.injEq] at h; rw [Nat.eq_of_beq_eq_true hk, h]; exact List.mem_cons_self
    | false => rw [hk] at h; simp only [cond_false] at h; exact List.mem_cons_of_mem _ (ih h)

theorem look_cons {α : Type} (k a : Nat) (b : α) (t : List (Nat × α)) : look k ((a, b) :: t) = if k = a then some b else look k t := by
  simp only [look]
  by_cases h : k = a
  · simp [h, Nat.beq_refl]
  · rw [if_neg h]
    have : Nat.beq k a = false := by
      cases hk : Nat.beq k a with
      | true => exact absurd (Nat.eq_of_beq_eq_true hk) h
      | false => rfl
    simp [this]

theorem S.ok_sl {σ : S} (h : σ.ok = true) {k : Nat} {v : AV} (hk : look k σ.sl = some v) : v.lt σ.nx = true := by
  simp only [S.ok, Bool.and_eq_true, List.all_eq_true] at h
  exact h.1 _ (look_mem hk)

theorem S.ok_mem {σ : S} (h : σ.ok = true) {k : Nat} {v : Ob} (hk : look k σ.mem = some v) : k < σ.nx ∧ v.lt σ.nx = true := by
  simp only [S.ok, Bool.and_eq_true, List.all_eq_true, Nat.blt_eq] at h
  exact h.2 _ (look_mem hk)
end Go.Sy

/- Types as the Sym layer reads them; the operations that leave the abstract memory alone, and that they do what they say. Conditions: none. -/
namespace Go.Sy
set_option linter.unusedVariables false

inductive Kd where
  | bool | int (k : IntKind) | string | slice (e : Nat) | arr (n e : Nat) | struct (fs : List (Nat × Nat)) | ptr (e : Nat) | map (k e : Nat) | func | usafe | other

structure Ty where
  kd : Kd
  size : Nat
  bytes : Nat
  zero : List D
  cmp : Option (List D)
  pl : List (Nat × Nat)

def kdOf : TypeDesc → Kd
  | .bool => .bool
  | .int k => .int k
  | .string => .string
  | .slice e => .slice e
  | .array n e => .arr n e
  | .struct fs => .struct (fs.toList.map fun f => (f.offset, f.type))
  | .pointer e => .ptr e
  | .map k e => .map k e
  | .func .. => .func
  | .unsafePointer => .usafe
  | _ => .other

/-- A cell's zero value; of a nil slice: with its elements' size (a hint: any serves). -/
def zeroD (sz : Nat) : Value → D
  | .bool b => .bl b
  | .int k n => .it k n
  | .string s => .st s.data.toList
  | .slice none 0 0 => .fs sz []
  | v => .ot v

def zl : List Value → List Nat → List D
  | [], _ => []
  | v :: t, h => zeroD (h.headD 0) v :: zl t h.tail

def zeroL (z : Option Value) (h : List Nat) : List D :=
  match z with
  | some z => bif z.cells.toList.all Value.oneCell' then zl z.cells.toList h else []
  | none => []

/-- Of each cell of a type: its elements' size, if it is a slice. -/
def slH (P : Program) : Nat → Nat → List Nat
  | 0, _ => []
  | n + 1, t => match P.underlying t, P.info? t with
    | some (.slice e), _ => [match P.info? e with | some i => i.size | none => 0]
    | some (.struct fs), _ => fs.toList.flatMap fun f => slH P n f.type
    | some (.array k e), _ => (List.replicate k (slH P n e)).flatten
    | _, some i => List.replicate i.size 0
    | _, none => []

/-- A zero value's cell: a nil slice has no room. -/
def toA : D → AV
  | .fs sz [] => .nl sz
  | x => .d x

/-- The cells of a type whose '==' is 'all cells are the same' (bools, integers, strings, structs and arrays of them), one of each kind. -/
def flatKs (K : Nat → Option (List D)) : List Field → Nat → Option (List D)
  | [], _ => some []
  | f :: r, o => bif f.offset == o && f.name != "_" then (match K f.type with
    | some l => match flatKs K r (o + l.length) with | some l' => some (l ++ l') | none => none
    | none => none) else none
def reps : Nat → List D → List D
  | 0, _ => []
  | n + 1, l => l ++ reps n l
def flatK (P : Program) : Nat → Nat → Option (List D)
  | 0, _ => none
  | n + 1, t => match (match P.underlying t with
    | some .bool => some [D.bl false]
    | some (.int k) => some [D.it k 0]
    | some .string => some [D.st []]
    | some (.struct fs) => bif P.stoodInHeld t then none else flatKs (flatK P n) fs.toList 0
    | some (.array len e) => match flatK P n e with | some l => some (reps len l) | none => none
    | _ => none), P.info? t with
    | some l, some i => bif i.size == l.length then some l else none
    | _, _ => none

def plOf (P : Program) : TypeDesc → Option (List (Nat × Nat))
  | .struct fs => fs.toList.mapM fun f => (P.info? f.type).map fun i => (f.offset, i.size)
  | _ => some []

def tyOf (P : Program) (t : Nat) : Option Ty :=
  match P.info? t, P.underlying t with
  | some i, some u => match plOf P u with
    | some pl => some ⟨kdOf u, i.size, i.bytes, zeroL i.zero (slH P 6 t), bif P.eqGuardType P.depth t then none else flatK P 6 t, pl⟩
    | none => none
  | _, _ => none

def TiOK (P : Program) (ti : Nat → Option Ty) : Prop := ∀ t ty, ti t = some ty → tyOf P t = some ty

structure TyOK (P : Program) (t : Nat) (ty : Ty) (u : TypeDesc) (i : TypeInfo) : Prop where
  und : P.underlying t = some u
  info : P.info? t = some i
  kd : kdOf u = ty.kd
  size : i.size = ty.size
  bytes : i.bytes = ty.bytes
  zero : zeroL i.zero (slH P 6 t) = ty.zero
  cmp : ty.cmp = bif P.eqGuardType P.depth t then none else flatK P 6 t
  pl : plOf P u = some ty.pl

theorem tyOf_ok {P : Program} {t : Nat} {ty : Ty} (h : tyOf P t = some ty) : ∃ u i, TyOK P t ty u i := by
  unfold tyOf at h
  split at h
  · rename_i i u hi hu
    split at h
    · rename_i pl hp
      obtain rfl := Option.some.inj h
      exact ⟨u, i, hu, hi, rfl, rfl, rfl, rfl, rfl, hp⟩
    · cases h
  · cases h

theorem run_typeInfo' {P : Program} {t : Nat} {i : TypeInfo} (h : P.info? t = some i) (w : World) : (typeInfo t).run P w = .ok i w := by
  simp [typeInfo, h]
theorem run_sizeOf' {P : Program} {t : Nat} {i : TypeInfo} (h : P.info? t = some i) (w : World) : (sizeOf t).run P w = .ok i.size w := by
  simp [sizeOf, run_typeInfo' h]

def Kd.agg : Kd → Bool
  | .arr .. | .struct .. => true
  | _ => false

theorem run_isAgg' {P : Program} {t : Nat} {u : TypeDesc} (h : P.underlying t = some u) (w : World) : (isAgg t).run P w = .ok (kdOf u).agg w := by
  simp only [isAgg, Sem.run_bind, run_underlying h, Result.andThen_ok]
  cases u <;> rfl

theorem addr_add (b off i : Nat) : (⟨b, off, none⟩ : Addr).add i = ⟨b, off + i, none⟩ := by
  unfold Addr.add; split <;> simp_all

/-- A constant as a value. -/
def ofConst : Value → AV
  | .bool b => .d (.bl b)
  | .int k n => .d (.it k n)
  | .string s => .d (.st s.data.toList)
  | .slice none 0 _ => .d (.fs 0 [])
  | .agg _ | .tuple _ => .junk
  | v => .d (.ot v)

theorem zeroD_ok (F : Nat → Nat → Option Value) (sz : Nat) (v : Value) (h : v.oneCell' = true) : DR F (zeroD sz v) v := by
  unfold zeroD
  split
  · exact .bl _
  · exact .it _ _
  · rename_i s; obtain ⟨⟨l⟩⟩ := s; exact .st l
  · exact .fs0 _ _ _
  · exact .ot _ h

theorem zeroA_ok (g : Gh) (sz : Nat) (v : Value) (h : v.oneCell' = true) : AVR g (toA (zeroD sz v)) v := by
  have h1 := zeroD_ok g.F sz v h
  unfold zeroD at h1 ⊢
  split
  · exact .d _ _ (.bl _)
  · exact .d _ _ (.it _ _)
  · rename_i s; obtain ⟨⟨l⟩⟩ := s; exact .d _ _ (.st l)
  · exact .nl _
  · exact .d _ _ (.ot _ h)

theorem toA_lt (x : D) (m : Nat) : (toA x).lt1 m = true := by unfold toA; split <;> rfl
theorem toA_sc (x : D) : (toA x).sc = true := by unfold toA; split <;> rfl

theorem zl_length : ∀ (l : List Value) (h : List Nat), (zl l h).length = l.length
  | [], _ => rfl
  | v :: t, h => by simp [zl, zl_length t]
theorem zl_get : ∀ (l : List Value) (h : List Nat) (j : Nat) (hj : j < (zl l h).length) (hj' : j < l.length), ∃ sz, (zl l h)[j] = zeroD sz l[j]
  | v :: t, h, 0, _, _ => ⟨_, rfl⟩
  | v :: t, h, j + 1, hj, hj' => zl_get t h.tail j (by simpa [zl] using hj) (by simpa using hj')

theorem ofConst_ok (g : Gh) (v : Value) : AVR g (ofConst v) v := by
  unfold ofConst
  split
  · exact .d _ _ (.bl _)
  · exact .d _ _ (.it _ _)
  · rename_i s; obtain ⟨⟨l⟩⟩ := s; exact .d _ _ (.st l)
  · exact .d _ _ (.fs0 _ _ _)
  · exact .junk _
  · exact .junk _
  · rename_i h1 h2 h3 h4 h5 h6
    refine .d _ _ (.ot _ ?_)
    cases v <;> first | rfl | (exact absurd rfl (h5 _)) | (exact absurd rfl (h6 _))

def ρ (sl : List (Nat × AV)) : Operand → Option AV
  | .tmp t => look t sl
  | .const v => some (ofConst v)
  | .func f => some (.fn (.func f) [] [])
  | .global _ => none

theorem ofConst_lt (v : Value) (m : Nat) : (ofConst v).lt m = true := by
  unfold ofConst; split <;> rfl

theorem ρ_ok {g : Gh} {sl : List (Nat × AV)} {a : Act} (h : ∀ k v, look k sl = some v → AVR g v (a.tmps.getD k undef)) {x : Operand} {v : AV} (hx : ρ sl x = some v) : AVR g v (a.eval x) := by
  cases x with
  | tmp t => exact h t v hx
  | const c => obtain rfl := Option.some.inj hx; exact ofConst_ok g c
  | global _ => cases hx
  | func f => obtain rfl := Option.some.inj hx; exact .fn _ _ _ _ _ rfl rfl (fun j hj => by cases hj) (fun j hj => by cases hj)

theorem ρ_lt {σ : S} (hσ : σ.ok = true) {x : Operand} {v : AV} (hx : ρ σ.sl x = some v) : v.lt σ.nx = true := by
  cases x with
  | tmp t => exact S.ok_sl hσ hx
  | const c => obtain rfl := Option.some.inj hx; exact ofConst_lt c _
  | global _ => cases hx
  | func f => obtain rfl := Option.some.inj hx; rfl

/-- Data alone: nothing in it is named. -/
def AV.isP : AV → Bool
  | .d _ | .dg .. => true
  | .tup vs => vs.all fun | .d _ | .dg .. => true | _ => false
  | _ => false

def frzL : List AV → Option (List D)
  | [] => some []
  | .d x :: t => match frzL t with | some l => some (x :: l) | none => none
  | .ts sz es _ :: t => match frzL t with | some l => some (.fs sz es :: l) | none => none
  | .tg sz es :: t => match frzL t with | some l => some (.fs sz es :: l) | none => none
  | .nl sz :: t => match frzL t with | some l => some (.fs sz [] :: l) | none => none
  | _ => none

/-- Without names: an open slice as the data that it shows. -/
def AV.pure1 : AV → Option AV
  | .d x => some (.d x)
  | .dg k cs => some (.dg k cs)
  | .ts sz es _ => some (.d (.fs sz es))
  | .tg sz es => some (.d (.fs sz es))
  | .nl sz => some (.d (.fs sz []))
  | .ag k cs => match frzL cs with | some l => some (.dg k l) | none => none
  | _ => none

def pureL : List AV → Option (List AV)
  | [] => some []
  | v :: t => match v.pure1, pureL t with | some x, some l => some (x :: l) | _, _ => none

def AV.pure : AV → Option AV
  | .tup vs => match pureL vs with | some l => some (.tup l) | none => none
  | v => v.pure1

theorem frzL_ok {g : Gh} : ∀ {l : List AV} {ds : List D}, frzL l = some ds → ds.length = l.length ∧ ∀ (f : Nat → Value), (∀ j (h : j < l.length), AVR g l[j] (f j)) → ∀ j (h : j < ds.length), DR g.F ds[j] (f j)
  | [], ds, h => by obtain rfl := Option.some.inj h; exact ⟨rfl, fun _ _ j hj => by cases hj⟩
  | v :: t, ds, h => by
    have key : ∃ x l, ds = x :: l ∧ frzL t = some l ∧ ∀ u, AVR g v u → DR g.F x u := by
      cases v <;> simp only [frzL] at h <;> try cases h
      · rename_i x
        split at h
        · rename_i l hl; obtain rfl := Option.some.inj h
          exact ⟨_, _, rfl, hl, fun u hu => by cases hu; assumption⟩
        · cases h
      · rename_i sz es n
        split at h
        · rename_i l hl; obtain rfl := Option.some.inj h
          refine ⟨_, _, rfl, hl, fun u hu => ?_⟩
          cases hu with
          | ts0 => assumption
          | ts => assumption
        · cases h
      · rename_i sz es
        split at h
        · rename_i l hl; obtain rfl := Option.some.inj h
          exact ⟨_, _, rfl, hl, fun u hu => by cases hu; assumption⟩
        · cases h
      · split at h
        · rename_i l hl; obtain rfl := Option.some.inj h
          exact ⟨_, _, rfl, hl, fun u hu => by cases hu; exact .fs0 _ _ _⟩
        · cases h
    obtain ⟨x, l, rfl, hl, hx⟩ := key
    obtain ⟨i1, i2⟩ := frzL_ok (g := g) hl
    refine ⟨by simp [i1], fun f hf j hj => ?_⟩
    cases j with
    | zero => exact hx _ (hf 0 (by simp))
    | succ j => exact i2 (fun j => f (j + 1)) (fun j hj => hf (j + 1) (by simpa using hj)) j (by simpa using hj)

theorem pure1_ok {g : Gh} {v r : AV} {u : Value} (h : v.pure1 = some r) (hu : AVR g v u) : AVR g r u := by
  cases v <;> simp only [AV.pure1] at h <;> try cases h
  · exact hu
  · exact hu
  · rename_i k cs
    split at h
    · rename_i l hl; obtain rfl := Option.some.inj h
      cases hu with
      | ag k cs vs h1 h2 h3 h4 =>
        obtain ⟨i1, i2⟩ := frzL_ok (g := g) hl
        exact .dg _ _ _ h1 (i1.trans h2) fun j hj => i2 (fun j => vs.getD j undef) h4 j hj
    · cases h
  · cases hu with
    | ts0 => exact .d _ _ (by assumption)
    | ts => exact .d _ _ (by assumption)
  · cases hu; exact .d _ _ (by assumption)
  · cases hu; exact .d _ _ (.fs0 _ _ _)

theorem pure1_isP {v r : AV} (h : v.pure1 = some r) : (∃ x, r = .d x) ∨ ∃ k cs, r = .dg k cs := by
  cases v <;> simp only [AV.pure1] at h <;> try cases h
  · exact .inl ⟨_, rfl⟩
  · exact .inr ⟨_, _, rfl⟩
  · split at h
    · obtain rfl := Option.some.inj h; exact .inr ⟨_, _, rfl⟩
    · cases h
  · exact .inl ⟨_, rfl⟩
  · exact .inl ⟨_, rfl⟩
  · exact .inl ⟨_, rfl⟩

theorem pureL_ok {g : Gh} : ∀ {l r : List AV}, pureL l = some r → r.length = l.length ∧ (∀ (f : Nat → Value), (∀ j (h : j < l.length), AVR g l[j] (f j)) → ∀ j (h : j < r.length), AVR g r[j] (f j)) ∧ ∀ x ∈ r, (∃ y, x = .d y) ∨ ∃ k cs, x = .dg k cs
  | [], r, h => by obtain rfl := Option.some.inj h; exact ⟨rfl, fun _ _ j hj => (by cases hj), fun x hx => by cases hx⟩
  | v :: t, r, h => by
    simp only [pureL] at h
    split at h
    · rename_i x l hx hl
      obtain rfl := Option.some.inj h
      obtain ⟨i1, i2, i3⟩ := pureL_ok (g := g) hl
      refine ⟨by simp [i1], fun f hf j hj => ?_, fun y hy => ?_⟩
      · cases j with
        | zero => exact pure1_ok hx (hf 0 (by simp))
        | succ j => exact i2 (fun j => f (j + 1)) (fun j hj => hf (j + 1) (by simpa using hj)) j (by simpa using hj)
      · rcases List.mem_cons.1 hy with rfl | hy
        · exact pure1_isP hx
        · exact i3 y hy
    · cases h

theorem pure_ok {g : Gh} {v r : AV} {u : Value} (h : v.pure = some r) (hu : AVR g v u) : AVR g r u ∧ r.isP = true := by
  have one : ∀ {v r : AV} {u : Value}, v.pure1 = some r → AVR g v u → AVR g r u ∧ r.isP = true := fun h hu =>
    ⟨pure1_ok h hu, by rcases pure1_isP h with ⟨x, rfl⟩ | ⟨k, cs, rfl⟩ <;> rfl⟩
  cases v with
  | tup vs =>
    simp only [AV.pure] at h
    split at h
    · rename_i l hl; obtain rfl := Option.some.inj h
      obtain ⟨i1, i2, i3⟩ := pureL_ok (g := g) hl
      cases hu with
      | tup cs us h1 h2 =>
        refine ⟨.tup _ _ (h1.trans i1.symm) fun j hj => i2 (fun j => us.getD j undef) h2 j hj, ?_⟩
        simp only [AV.isP, List.all_eq_true]
        intro x hx
        rcases i3 x hx with ⟨y, rfl⟩ | ⟨k, cs, rfl⟩ <;> rfl
    · cases h
  | _ => exact one (by simpa only [AV.pure] using h) hu

theorem isP_lt {v : AV} (h : v.isP = true) (m : Nat) : v.lt m = true := by
  cases v <;> first | rfl | (simp [AV.isP] at h; done) | skip
  rename_i vs
  simp only [AV.isP, List.all_eq_true] at h
  simp only [AV.lt, List.all_eq_true]
  intro x hx
  have := h x hx
  cases x <;> first | rfl | simp at this

theorem isP_mono {g g' : Gh} (hF : ∀ b o v, g.F b o = some v → g'.F b o = some v) {v : AV} {u : Value} (h : v.isP = true) (hu : AVR g v u) : AVR g' v u :=
  hu.ext (m := 0) ⟨hF, fun n hn => by omega, fun n hn => by omega, fun n hn => by omega, fun n hn => by omega⟩ (isP_lt h 0)

end Go.Sy

/- The operations that leave the abstract memory alone: what each yields (evVal), and that it does (Does). Conditions: none. -/
namespace Go.Sy
set_option linter.unusedVariables false

/-- In every world that fits, with operands that fit, the operation yields what 'av' says, and no name turns. -/
def Does (P : Program) (mem : List (Nat × Ob)) (nx : Nat) (r : Operand → Option AV) (o : Oper) (av : AV) : Prop :=
  av.lt nx = true ∧ ∀ (κ : Ctx) (g : Gh) (a : Act) (w : World), Inv κ g mem w → (∀ x ∈ o.op.operands.toList, ∀ v, r x = some v → AVR g v (a.eval x)) →
    ∀ (next : Act → World → Prop) (Q : Exit → Act → World → Prop), (∀ g' v w', Ext nx g g' → Inv κ g' mem w' → AVR g' av v → next (a.put o.dst v) w') → o.wpIn (wd κ.rd) 0 P a w next Q

theorem semAt_of {P : Program} {o : Oper} {ρ : Operand → Value} {w w' : World} {x : Next} {r : Option Nat} (h : (execOp ρ o).run P w = .ok x w') (hx : ∀ d, x ≠ .defer d) : (o.semAt r ρ).run P w = .ok x w' := by
  by_cases hd : ∃ c, o.op = .defer c
  · obtain ⟨c, hc⟩ := hd
    exfalso
    simp only [execOp, hc, Sem.run_bind] at h
    cases hr : (resolve ρ c o.type).run P w with
    | ok d w1 => rw [hr] at h; simp only [Result.andThen_ok, Sem.run_pure, Result.ok.injEq] at h; exact hx d h.1.symm
    | halt p w1 => rw [hr] at h; simp at h
  · rw [Oper.semAt_eq _ _ _ fun c hc => hd ⟨c, hc⟩]; exact h

theorem wp_value {P : Program} {o : Oper} {a : Act} {w w' : World} {v : Value} {next : Act → World → Prop} {Q : Exit → Act → World → Prop} {r : Option Nat}
    (h : (execOp a.eval o).run P w = .ok (.value v) w') (hn : next (a.put o.dst v) w') : o.wpIn (wd r) 0 P a w next Q := by
  refine ⟨fun _ _ => trivial, ?_⟩
  rw [semAt_of h (fun d hd => by cases hd)]; exact hn

theorem wp_skipped {P : Program} {o : Oper} {a : Act} {w w' : World} {next : Act → World → Prop} {Q : Exit → Act → World → Prop} {r : Option Nat}
    (h : (execOp a.eval o).run P w = .ok .skip w') (hn : next (a.put o.dst undef) w') : o.wpIn (wd r) 0 P a w next Q := by
  refine ⟨fun _ _ => trivial, ?_⟩
  rw [semAt_of h (fun d hd => by cases hd)]; exact hn

theorem callsIn_wd {P : Program} {f : FuncId} {args : Array Value} {w : World} {R : Ending → World → Prop} {r : Option Nat} {n : Nat} (h : Calls P f args w R) : CallsIn (wd r) n P f args w R := by
  have := callsIn_wide (n := n).2 h
  refine ⟨trivial, fun cs _ => ?_⟩
  obtain ⟨e, w', fr, k1, k2, k3⟩ := this.2 cs (room_wide _)
  exact ⟨e, w', fr, k1, k2, k3⟩

theorem wp_enter {P : Program} {o : Oper} {a : Act} {w w' : World} {f : FuncId} {args : Array Value} {next : Act → World → Prop} {Q : Exit → Act → World → Prop} {r : Option Nat}
    (h : (execOp a.eval o).run P w = .ok (.enter f args) w') (hn : Calls P f args w' fun e w'' => ∃ v, e = .returned v ∧ next (a.put o.dst v) w'') : o.wpIn (wd r) 0 P a w next Q := by
  refine ⟨fun _ _ => trivial, ?_⟩
  rw [semAt_of h (fun d hd => by cases hd)]
  refine ⟨fun hd => by simp [wd] at hd, callsIn_wd (hn.mono fun e w'' ⟨v, he, hv⟩ => ?_)⟩
  subst he
  exact hv

/-- The world is left as it is. -/
theorem Does.of_run {P : Program} {mem : List (Nat × Ob)} {nx : Nat} {r : Operand → Option AV} {o : Oper} {av : AV} (hl : av.lt nx = true)
    (h : ∀ (κ : Ctx) (g : Gh) (a : Act) (w : World), Inv κ g mem w → (∀ x ∈ o.op.operands.toList, ∀ v, r x = some v → AVR g v (a.eval x)) → ∃ v, (execOp a.eval o).run P w = .ok (.value v) w ∧ AVR g av v) :
    Does P mem nx r o av :=
  ⟨hl, fun κ g a w hi ho next Q hn => let ⟨v, hr, hv⟩ := h κ g a w hi ho; wp_value hr (hn g v w (.refl _ _) hi hv)⟩

/-- Two ways on. -/
structure Spl (b : Bool) (A B : Prop) : Prop where
  t : b = true → A
  f : b = false → B
theorem Spl.tt {A B : Prop} (h : A) : Spl true A B := ⟨fun _ => h, (fun h => by cases h)⟩
theorem Spl.ff {A B : Prop} (h : B) : Spl false A B := ⟨(fun h => by cases h), fun _ => h⟩

def optK (v : Option AV) (K : AV → Prop) : Prop :=
  match v with
  | some v => K v
  | none => False

def ldD (ty : Ty) (cs : List D) : AV := bif ty.kd.agg then .dg ty.size (cs.take ty.size) else .d (cs.getD 0 (.bl false))

def allD : List AV → Option (List D)
  | [] => some []
  | .d x :: t => match allD t with | some l => some (x :: l) | none => none
  | _ => none

def mkAg (k : Nat) (cs : List AV) : AV :=
  match allD cs with
  | some l => .dg k l
  | none => .ag k cs

def ldA (ty : Ty) (off : Nat) (c : List AV) : AV := bif ty.kd.agg then mkAg ty.size ((c.drop off).take ty.size) else c.getD off .junk

def bytesOf : List (List D) → Option (List UInt8)
  | [] => some []
  | [.it .u8 n] :: t => match bytesOf t with | some l => some (UInt8.ofNat n.toNat :: l) | none => none
  | _ => none

/-- A number that is made: the proof may name it, or put another form of it in its place. -/
structure LetI (e : Int) (K : Int → Prop) : Prop where
  run : K e

/-- A cell of a long array. -/
structure AtA (a : AV) (K : AV → Prop) : Prop where
  run : K a

structure LetN (e : Nat) (K : Nat → Prop) : Prop where
  run : K e

def binI (op : BinOp) (k : IntKind) (a b : Int) (K : D → Prop) : Prop :=
  match op with
  | .add => LetI (k.wrap (a + b)) fun z => K (.it k z)
  | .sub => LetI (k.wrap (a - b)) fun z => K (.it k z)
  | .mul => LetI (k.wrap (a * b)) fun z => K (.it k z)
  | .quo => b ≠ 0 ∧ LetI (k.wrap (a.tdiv b)) fun z => K (.it k z)
  | .rem => b ≠ 0 ∧ LetI (a.tmod b) fun z => K (.it k z)
  | .eql => K (.bl (a == b))
  | .neq => K (.bl (a != b))
  | .lss => K (.bl (a < b))
  | .leq => K (.bl (a ≤ b))
  | .gtr => K (.bl (a > b))
  | .geq => K (.bl (a ≥ b))
  | .and => LetI (k.wrap (BitVec.ofInt k.bits a &&& BitVec.ofInt k.bits b).toNat) fun z => K (.it k z)
  | .or => LetI (k.wrap (BitVec.ofInt k.bits a ||| BitVec.ofInt k.bits b).toNat) fun z => K (.it k z)
  | .xor => LetI (k.wrap (BitVec.ofInt k.bits a ^^^ BitVec.ofInt k.bits b).toNat) fun z => K (.it k z)
  | .andNot => LetI (k.wrap (BitVec.ofInt k.bits a &&& ~~~BitVec.ofInt k.bits b).toNat) fun z => K (.it k z)
  | .shl => 0 ≤ b ∧ LetI (k.wrap (a * 2 ^ (min b.toNat k.bits))) fun z => K (.it k z)
  | .shr => 0 ≤ b ∧ LetI (a.fdiv (2 ^ (min b.toNat k.bits))) fun z => K (.it k z)

def binS (op : BinOp) (a b : List UInt8) (K : D → Prop) : Prop :=
  match op with
  | .add => a.length + b.length < 9223372036854775808 ∧ K (.st (a ++ b))
  | .eql => K (.bl (a == b))
  | .neq => K (.bl !(a == b))
  | .lss => K (.bl (Op.bytesLess a b))
  | .leq => K (.bl (Op.bytesLess a b || a == b))
  | .gtr => K (.bl !(Op.bytesLess a b || a == b))
  | .geq => K (.bl !Op.bytesLess a b)
  | _ => False

/-- The same scalar? -/
def eqD : D → D → Bool
  | .bl a, .bl b => a == b
  | .it _ a, .it _ b => a == b
  | .st a, .st b => a == b
  | _, _ => false

def eqDs : List D → List D → Bool
  | a :: x, b :: y => eqD a b && eqDs x y
  | _, _ => true

/-- Scalars of one kind, each. -/
def likeD : D → D → Bool
  | .bl _, .bl _ => true
  | .it k _, .it l _ => decide (k = l)
  | .st _, .st _ => true
  | _, _ => false

def likes : List D → List D → Bool
  | [], [] => true
  | a :: x, b :: y => likeD a b && likes x y
  | _, _ => false

abbrev bytesD (l : List UInt8) : List (List D) := l.map fun b => [D.it .u8 b.toNat]

def binK (ti : Nat → Option Ty) (op : BinOp) (t : Nat) (x y : AV) (K : D → Prop) : Prop :=
  match x, y with
  | .d (.it k a), .d (.it l b) => match op with
    | .shl | .shr => binI op k a b K
    | _ => bif decide (k = l) then binI op k a b K else False
  | .d (.st a), .d (.st b) => binS op a b K
  | .d (.bl a), .d (.bl b) => match op, ti t with
    | .eql, some ⟨.bool, _, _, _, _, _⟩ => K (.bl (a == b))
    | .neq, some ⟨.bool, _, _, _, _, _⟩ => K (.bl (!(a == b)))
    | _, _ => False
  | .dg _ cs, .dg _ ds => match ti t with
    | some ty => match ty.cmp with
      | some z => bif ty.kd.agg && (likes z cs && likes z ds) then (match op with
        | .eql => K (.bl (eqDs cs ds))
        | .neq => K (.bl (!(eqDs cs ds)))
        | _ => False) else False
      | none => False
    | none => False
  | _, _ => False

def sliceOf : AV → Option (Nat × List (List D))
  | .d (.fs sz es) => some (sz, es)
  | .ts sz es _ => some (sz, es)
  | .tg sz es => some (sz, es)
  | .nl sz => some (sz, [])
  | _ => none

/-- The cells of a part of a literal, as data. -/
def cellsD : AV → Option (Nat × List D)
  | .d x => some (1, [x])
  | .dg k cs => some (k, cs)
  | .ts sz es _ => some (1, [.fs sz es])
  | .tg sz es => some (1, [.fs sz es])
  | .nl sz => some (1, [.fs sz []])
  | .ag k cs => match frzL cs with | some l => some (k, l) | none => none
  | _ => none

/-- The cells of a part, or of what is stored. -/
def cellsA : AV → Option (Nat × List AV)
  | .dg k cs => some (k, cs.map .d)
  | .ag k cs => some (k, cs)
  | .tup _ | .junk => none
  | v => some (1, [v])

def partsA (r : Operand → Option AV) : List (Nat × Operand) → Option (List (Nat × Nat × List AV))
  | [] => some []
  | (i, x) :: t => match (match r x with | some v => cellsA v | none => none), partsA r t with
    | some (k, l), some rest => some ((i, k, l) :: rest)
    | _, _ => none

def D.isFs : D → Bool
  | .fs .. => true
  | _ => false

def partsD (r : Operand → Option AV) : List (Nat × Operand) → Option (List (Nat × Nat × List D))
  | [] => some []
  | (i, x) :: t => match (match r x with | some v => cellsD v | none => none), partsD r t with
    | some (k, l), some rest => some ((i, k, l) :: rest)
    | _, _ => none

def fillD {α : Type} (place : Nat → Option (Nat × Nat)) : List α → List (Nat × Nat × List α) → Option (List α)
  | z, [] => some z
  | z, (i, k, l) :: t => match place i with
    | some (off, size) => bif Nat.beq k size then fillD place (z.take off ++ l ++ z.drop (off + k)) t else none
    | none => none

def placeOf (ti : Nat → Option Ty) (fs : List (Nat × Nat)) (i : Nat) : Option (Nat × Nat) :=
  match fs[i]? with
  | some (off, t) => match ti t with | some ty => some (off, ty.size) | none => none
  | none => none

def zeros : Nat → List D → List D
  | 0, _ => []
  | n + 1, z => z ++ zeros n z

def chunk (sz : Nat) : Nat → List D → List (List D)
  | 0, _ => []
  | n + 1, l => l.take sz :: chunk sz n (l.drop sz)

/-- At most where the operand fits: 'some n' an integer constant or slot. -/
def intOf? : AV → Option Int
  | .d (.it _ n) => some n
  | _ => none

/-- A call, entered or native, comes to where Q says. -/
def Step (P : Program) (f : Nat) (vs : Array Value) (w : World) (Q : Ending → World → Prop) : Prop :=
  ((callFunc f vs).run P w = .ok (.enter f vs) w ∧ Calls P f vs w Q) ∨ ∃ v w', (callFunc f vs).run P w = .ok (.value v) w' ∧ Q (.returned v) w'

/-- A contract of a function of data alone. -/
structure FnC (P : Program) (f : Nat) (args : List AV) (r : AV) : Prop where
  isP : r.isP = true
  run : ∀ (g : Gh) (w : World) (vs : Array Value), (∀ b o v, g.F b o = some v → w.cell? ⟨b, o, none⟩ = some v) → vs.size = args.length →
    (∀ j (h : j < args.length), AVR g args[j] (vs.getD j undef)) →
    Step P f vs w fun e w' => ∃ v g', e = .returned v ∧ AVR g' r v ∧ (∀ b o v, g.F b o = some v → g'.F b o = some v) ∧
      (∀ b o v, g'.F b o = some v → g.F b o = some v ∨ w.heap.size ≤ b) ∧ (∀ b o v, g'.F b o = some v → w'.cell? ⟨b, o, none⟩ = some v) ∧
      w.heap.size ≤ w'.heap.size ∧ (∀ b, b < w.heap.size → w'.heap[b]? = w.heap[b]?) ∧ w'.os = w.os ∧ w'.tape = w.tape ∧ w'.output = w.output

structure CallP (P : Program) (f : Nat) (args : List AV) (K : AV → Prop) : Prop where
  run : ∃ r, FnC P f args r ∧ K r

def argsP (r : Operand → Option AV) : List Operand → Option (List AV)
  | [] => some []
  | x :: t => match (match r x with | some v => v.pure1 | none => none), argsP r t with
    | some v, some l => some (v :: l)
    | _, _ => none

/-- All operands, as they stand. -/
def argsA (r : Operand → Option AV) : List Operand → Option (List AV)
  | [] => some []
  | x :: t => match r x, argsA r t with
    | some v, some l => some (v :: l)
    | _, _ => none

/-- No struct, no function, no tuple. -/
def AV.flat : AV → Bool
  | .fn .. | .ag .. | .tup .. => false
  | _ => true

def evVal (P : Program) (ti : Nat → Option Ty) (mem : List (Nat × Ob)) (r : Operand → Option AV) (o : Oper) (K : AV → Prop) : Prop :=
  match o.op with
  | .move x | .assign x => optK (r x) K
  | .pick c a b => match r c with
    | some (.d (.bl t)) => Spl t (optK (r a) K) (optK (r b) K)
    | _ => False
  | .nilCheck x => match r x with
    | some (.ptr n off) => K (.ptr n off)
    | some (.d (.fp k cs)) => K (.d (.fp k cs))
    | _ => False
  | .load t x => match ti t, r x with
    | some ty, some (.d (.fp k cs)) => bif Nat.ble ty.size k && Nat.blt 0 k then K (ldD ty cs) else False
    | some ty, some (.ptr n off) => match look n mem with
      | some (.cells size c) => bif Nat.ble (off + ty.size) size && Nat.blt off size then (bif Nat.ble 17 size then AtA (ldA ty off c) K else K (ldA ty off c)) else False
      | _ => False
    | _, _ => False
  | .fieldAddr t x f => match ti t, r x with
    | some ⟨.struct fs, _, _, _, _, _⟩, some p => match placeOf ti fs f with
      | some (fo, fsz) => bif Nat.blt 0 fsz then (match p with
        | .ptr n off => K (.ptr n (off + fo))
        | .d (.fp k cs) => bif Nat.ble fo k then K (.d (.fp (k - fo) (cs.drop fo))) else False
        | _ => False) else False
      | none => False
    | _, _ => False
  | .field t x f => match ti t, r x with
    | some ⟨.struct fs, _, _, _, _, _⟩, some v => match fs[f]? with
      | some (fo, ft) => match ti ft with
        | some fty => match v with
          | .dg k cs => bif Nat.ble (fo + fty.size) k && Nat.blt fo k then K (ldD fty (cs.drop fo)) else False
          | .ag k cs => bif Nat.ble (fo + fty.size) k && Nat.blt fo k then K (ldA fty fo cs) else False
          | _ => False
        | none => False
      | none => False
    | _, _ => False
  | .indexAddr t x i => match ti t, r x, r i with
    | some ⟨.slice e, _, _, _, _, _⟩, some v, some (.d (.it _ n)) => match sliceOf v, ti e with
      | some (sz, es), some ety => bif Nat.beq sz ety.size then (0 ≤ n ∧ n < es.length) ∧ ∀ c, es[n.toNat]? = some c → K (.d (.fp sz c)) else False
      | _, _ => False
    | some ⟨.arr len e, _, _, _, _, _⟩, some (.d (.fp k cs)), some (.d (.it _ n)) => match ti e with
      | some ety => bif Nat.ble (len * ety.size) k && Nat.blt 1 len then (0 ≤ n ∧ n < len) ∧ K (.d (.fp ety.size ((cs.drop (n.toNat * ety.size)).take ety.size))) else False
      | none => False
    | _, _, _ => False
  | .index t x i => match ti t, r x, r i with
    | some ⟨.string, _, _, _, _, _⟩, some (.d (.st l)), some (.d (.it _ n)) => (0 ≤ n ∧ n < l.length) ∧ ∀ c, l[n.toNat]? = some c → K (.d (.it .u8 c.toNat))
    | some ⟨.arr len e, _, _, _, _, _⟩, some (.dg k cs), some (.d (.it _ n)) => match ti e with
      | some ety => bif Nat.ble (len * ety.size) k && Nat.blt 0 ety.size then (0 ≤ n ∧ n < len) ∧ K (ldD ety (cs.drop (n.toNat * ety.size))) else False
      | none => False
    | _, _, _ => False
  | .slice t x lo hi mx => match ti t, r x with
    | some ⟨.string, _, _, _, _, _⟩, some (.d (.st l)) => match lo, hi, mx with
      | some lo, some hi, none => match r lo, r hi with
        | some (.d (.it .i64 i)), some (.d (.it .i64 j)) => (0 ≤ i ∧ i ≤ j ∧ j ≤ l.length) ∧ K (.d (.st ((l.take j.toNat).drop i.toNat)))
        | _, _ => False
      | some lo, none, none => match r lo with
        | some (.d (.it .i64 i)) => (0 ≤ i ∧ i ≤ l.length) ∧ K (.d (.st (l.drop i.toNat)))
        | _ => False
      | none, some hi, none => match r hi with
        | some (.d (.it .i64 j)) => (0 ≤ j ∧ j ≤ l.length) ∧ K (.d (.st (l.take j.toNat)))
        | _ => False
      | _, _, _ => False
    | some ⟨.slice e, _, _, _, _, _⟩, some v => match sliceOf v, ti e with
      | some (sz, es), some ety => bif Nat.beq sz ety.size then (match lo, hi, mx with
        | some lo, some hi, none => match r lo, r hi with
          | some (.d (.it .i64 i)), some (.d (.it .i64 j)) => (0 ≤ i ∧ i ≤ j ∧ j ≤ es.length) ∧ K (.d (.fs sz ((es.take j.toNat).drop i.toNat)))
          | _, _ => False
        | some lo, none, none => match r lo with
          | some (.d (.it .i64 i)) => (0 ≤ i ∧ i ≤ es.length) ∧ K (.d (.fs sz (es.drop i.toNat)))
          | _ => False
        | none, some hi, none => match r hi with
          | some (.d (.it .i64 j)) => (0 ≤ j ∧ j ≤ es.length) ∧ K (.d (.fs sz (es.take j.toNat)))
          | _ => False
        | none, some hi, some mx => match r hi, r mx with
          | some (.d (.it .i64 j)), some (.d (.it .i64 m)) => (0 ≤ j ∧ j ≤ es.length ∧ m = j) ∧ K (.tg sz (es.take j.toNat))
          | _, _ => False
        | _, _, _ => False) else False
      | _, _ => False
    | _, _ => False
  | .binOp op t x y _ => match r x, r y with
    | some u, some v => binK ti op t u v fun z => K (.d z)
    | _, _ => False
  | .unOp .not _ x => match r x with
    | some (.d (.bl b)) => K (.d (.bl !b))
    | _ => False
  | .unOp .neg _ x => match r x with
    | some (.d (.it k n)) => LetI (k.wrap (0 - n)) fun z => K (.d (.it k z))
    | _ => False
  | .convert s t x => match ti s, ti t, r x with
    | some ⟨.int _, _, _, _, _, _⟩, some ⟨.int k, _, _, _, _, _⟩, some (.d (.it _ n)) => LetI (k.wrap n) fun z => K (.d (.it k z))
    | some ⟨.string, _, _, _, _, _⟩, some ⟨.string, _, _, _, _, _⟩, some (.d (.st l)) => K (.d (.st l))
    | some ⟨.slice e, _, _, _, _, _⟩, some ⟨.string, _, _, _, _, _⟩, some v => match sliceOf v, ti e with
      | some (sz, es), some ⟨.int .u8, 1, _, _, _, _⟩ => bif Nat.beq sz 1 then ∃ l, es = bytesD l ∧ K (.d (.st l)) else False
      | _, _ => False
    | some ⟨.string, _, _, _, _, _⟩, some ⟨.slice e, _, _, _, _, _⟩, some (.d (.st l)) => match ti e with
      | some ⟨.int .u8, 1, _, _, _, _⟩ => K (.d (.fs 1 (bytesD l)))
      | _ => False
    | _, _, _ => False
  | .extract x i => match r x with
    | some (.tup vs) => optK vs[i]? K
    | _ => False
  | .build t parts => match ti t, partsD r parts.toList, partsA r parts.toList with
    | some ty, some ps, some pa => bif Nat.beq ty.zero.length ty.size && Nat.blt 0 ty.size then (match ty.kd with
      | .struct _ => bif ty.pl.all (fun p => Nat.ble (p.1 + p.2) ty.size) then (bif ty.zero.any D.isFs then (match fillD (fun i => ty.pl[i]?) (ty.zero.map toA) pa with
          | some l => K (.ag ty.size l)
          | none => False) else (match fillD (fun i => ty.pl[i]?) ty.zero ps with
          | some l => K (.dg ty.size l)
          | none => False)) else False
      | .arr _ e => match ti e with
        | some ety => match fillD (fun i => bif Nat.ble (i * ety.size + ety.size) ty.size then some (i * ety.size, ety.size) else none) ty.zero ps with
          | some l => bif ps.all (fun p => Nat.ble (p.1 * ety.size + ety.size) ty.size) then K (.dg ty.size l) else False
          | none => False
        | none => False
      | _ => False) else False
    | _, _, _ => False
  | .buildSlice t n parts => match ti t, partsD r parts.toList with
    | some ⟨.slice e, _, _, _, _, _⟩, some ps => match ti e with
      | some ety => bif Nat.beq ety.zero.length ety.size && Nat.blt 0 ety.size && (Nat.ble (n * ety.size) 16777216 && ps.all (fun p => Nat.blt p.1 n)) then (match fillD (fun i => bif Nat.blt i n then some (i * ety.size, ety.size) else none) (zeros n ety.zero) ps with
        | some l => K (.tg ety.size (chunk ety.size n l))
        | none => False) else False
      | none => False
    | _, _ => False
  | .call c => match c.callee, c.args.toList with
    | .builtin .len, [x] => match r x, c.argTypes[0]?.bind ti with
      | some (.d (.st l)), some ⟨.string, _, _, _, _, _⟩ => K (.d (.it .i64 l.length))
      | some v, some ⟨.slice _, _, _, _, _, _⟩ => match sliceOf v with
        | some (_, es) => K (.d (.it .i64 es.length))
        | none => False
      | _, some ⟨.arr n _, _, _, _, _, _⟩ => K (.d (.it .i64 n))
      | _, _ => False
    | .builtin .min, [x, y] => match r x, r y with
      | some (.d (.it k a)), some (.d (.it _ b)) => LetI (if b < a then b else a) fun z => K (.d (.it k z))
      | _, _ => False
    | .builtin .max, [x, y] => match r x, r y with
      | some (.d (.it k a)), some (.d (.it _ b)) => LetI (if b > a then b else a) fun z => K (.d (.it k z))
      | _, _ => False
    | .value (.func f), l => match argsP r l with
      | some args => CallP P f args K
      | none => False
    | _, _ => False
  | _ => False
end Go.Sy

/- evVal is sound. Conditions: none. -/
namespace Go.Sy
set_option linter.unusedVariables false

theorem getD_range (f : Nat → Value) (n j : Nat) (h : j < n) : (((List.range n).map f).toArray).getD j undef = f j := by
  simp [Array.getD, h]

theorem run_loadVar {P : Program} {t : Nat} {ty : Ty} {u : TypeDesc} {i : TypeInfo} (h : TyOK P t ty u i) {w : World} {b off : Nat} {f : Nat → Value}
    (hc : ∀ j, j < ty.size → w.cell? ⟨b, off + j, none⟩ = some (f j)) (h0 : w.cell? ⟨b, off, none⟩ = some (f 0)) :
    (loadVar t ⟨b, off, none⟩).run P w = .ok (if ty.kd.agg then .agg ((List.range ty.size).map f).toArray else f 0) w := by
  simp only [loadVar, Sem.run_bind, run_isAgg' h.und, Result.andThen_ok, h.kd]
  cases ha : ty.kd.agg with
  | true =>
    simp only [if_true, Sem.run_bind, run_sizeOf' h.info, Result.andThen_ok, h.size]
    rw [run_loadCells _ _ _ f (fun j hj => by rw [addr_add]; exact hc j hj)]
    rfl
  | false =>
    simp only [Bool.false_eq_true, if_false, run_load, h0]

theorem cs_getD {cs : List D} {j : Nat} (h : j < cs.length) (x : D) : cs.getD j x = cs[j] := by
  simp [List.getD, h]

/-- What stands at an address, as data. -/
def At (F : Nat → Nat → Option Value) (b off k : Nat) (cs : List D) (f : Nat → Value) : Prop :=
  cs.length = k ∧ (∀ j, j < k → F b (off + j) = some (f j)) ∧ ∀ j (h : j < cs.length), DR F cs[j] (f j)

theorem ldD_ok {g : Gh} {ty : Ty} {cs : List D} {f : Nat → Value} (hr : ∀ j (h : j < cs.length), DR g.F cs[j] (f j)) (hs : ty.size ≤ cs.length) (h0 : 0 < cs.length) :
    AVR g (ldD ty cs) (if ty.kd.agg then .agg ((List.range ty.size).map f).toArray else f 0) := by
  unfold ldD
  cases ty.kd.agg with
  | true =>
    simp only [cond_true, if_true]
    refine .dg _ _ _ (by simp) (by simp [hs]) fun j hj => ?_
    simp only [List.length_take] at hj
    rw [getD_range f _ _ (by omega)]
    simpa using hr j (by omega)
  | false =>
    simp only [cond_false, Bool.false_eq_true, if_false]
    rw [cs_getD h0]
    exact .d _ _ (hr 0 h0)

theorem allD_ok : ∀ {l : List AV} {ds : List D}, allD l = some ds → l = ds.map AV.d
  | [], ds, h => by obtain rfl := Option.some.inj h; rfl
  | v :: t, ds, h => by
    cases v <;> simp only [allD] at h <;> try cases h
    split at h
    · rename_i l hl; obtain rfl := Option.some.inj h
      rw [allD_ok hl]; rfl
    · cases h

theorem mkAg_ok {g : Gh} {k : Nat} {cs : List AV} {vs : Array Value} (h1 : vs.size = k) (h2 : cs.length = k) (h3 : ∀ j (h : j < cs.length), cs[j].sc = true)
    (h : ∀ j (h : j < cs.length), AVR g cs[j] (vs.getD j undef)) : AVR g (mkAg k cs) (.agg vs) := by
  unfold mkAg
  split
  · rename_i l hl
    obtain rfl := allD_ok hl
    refine .dg _ _ _ h1 (by simpa using h2) fun j hj => ?_
    have := h j (by simpa using hj)
    simp only [List.getElem_map] at this
    cases this; assumption
  · exact .ag _ _ _ h1 h2 h3 h

theorem ldA_ok {g : Gh} {ty : Ty} {c : List AV} {off : Nat} {f : Nat → Value} (h3 : ∀ j (h : j < c.length), c[j].sc = true) (hr : ∀ j (h : j < c.length), AVR g c[j] (f j)) (hs : off + ty.size ≤ c.length) (h0 : off < c.length) :
    AVR g (ldA ty off c) (if ty.kd.agg then .agg ((List.range ty.size).map fun j => f (off + j)).toArray else f (off + 0)) := by
  unfold ldA
  cases ty.kd.agg with
  | true =>
    simp only [cond_true, if_true]
    refine mkAg_ok (by simp) (by simp; omega) (fun j hj => ?_) fun j hj => ?_
    · simp only [List.length_take, List.length_drop] at hj
      simpa using h3 (off + j) (by omega)
    · simp only [List.length_take, List.length_drop] at hj
      rw [getD_range (fun j => f (off + j)) _ _ (by omega)]
      simpa using hr (off + j) (by omega)
  | false =>
    simp only [cond_false, Bool.false_eq_true, if_false]
    have : c.getD off .junk = c[off] := by simp [List.getD, h0]
    rw [this]
    exact hr off h0

theorem all_getElem {α : Type} {l : List α} {p : α → Bool} (h : l.all p = true) (j : Nat) (hj : j < l.length) : p l[j] = true :=
  List.all_eq_true.1 h _ (List.getElem_mem hj)

theorem mkAg_lt {k m : Nat} {cs : List AV} (h : ∀ x ∈ cs, x.lt1 m = true) : (mkAg k cs).lt m = true := by
  unfold mkAg
  split
  · rfl
  · simp only [AV.lt, AV.lt2, List.all_eq_true]; exact h

theorem ldA_lt {ty : Ty} {off m : Nat} {c : List AV} (h : ∀ x ∈ c, x.lt1 m = true) : (ldA ty off c).lt m = true := by
  unfold ldA
  cases ty.kd.agg with
  | true => exact mkAg_lt fun x hx => h x (List.mem_of_mem_drop (List.mem_of_mem_take hx))
  | false =>
    simp only [cond_false]
    by_cases h0 : off < c.length
    · have : c.getD off .junk = c[off] := by simp [List.getD, h0]
      rw [this]; exact AV.lt_of_lt1 (h _ (List.getElem_mem _))
    · have : c.getD off .junk = .junk := by simp [List.getD, Nat.le_of_not_lt h0]
      rw [this]; rfl

theorem ldD_lt {ty : Ty} {cs : List D} {m : Nat} : (ldD ty cs).lt m = true := by unfold ldD; cases ty.kd.agg <;> rfl

section
variable {P : Program} {ti : Nat → Option Ty} {mem : List (Nat × Ob)} {nx : Nat} {r : Operand → Option AV} {o : Oper} {K : AV → Prop}

theorem eval_mem {x : Operand} {l : List Operand} (h : x ∈ l) : x ∈ l := h

theorem does_move {x : Operand} {v : AV} (hop : o.op = .move x ∨ o.op = .assign x) (hr : r x = some v) (hl : v.lt nx = true) : Does P mem nx r o v := by
  refine .of_run hl fun κ g a w hi ho => ⟨a.eval x, ?_, ho x ?_ v hr⟩
  · rcases hop with h | h <;> simp [execOp, h]
  · rcases hop with h | h <;> simp [h, Op.operands]

theorem does_pick {c x y : Operand} {t : Bool} {v : AV} (hop : o.op = .pick c x y) (hc : r c = some (.d (.bl t))) (hr : r (if t then x else y) = some v) (hl : v.lt nx = true) : Does P mem nx r o v := by
  refine .of_run hl fun κ g a w hi ho => ⟨a.eval (if t then x else y), ?_, ?_⟩
  · have h1 := ho c (by simp [hop, Op.operands]) _ hc
    have h2 : a.eval c = .bool t := by generalize a.eval c = q at h1; cases h1 with | d _ _ h => cases h; rfl
    cases t <;> simp [execOp, hop, h2, asBool]
  · refine ho _ ?_ _ hr
    cases t <;> simp [hop, Op.operands]

theorem does_nilCheck {x : Operand} {v : AV} (hop : o.op = .nilCheck x) (hr : r x = some v) (hl : v.lt nx = true) (hv : (∃ n off, v = .ptr n off) ∨ ∃ k cs, v = .d (.fp k cs)) : Does P mem nx r o v := by
  refine .of_run hl fun κ g a w hi ho => ⟨a.eval x, ?_, ho x (by simp [hop, Op.operands]) v hr⟩
  have h1 := ho x (by simp [hop, Op.operands]) _ hr
  have h2 : ∃ ad, a.eval x = .pointer (some ad) := by
    rcases hv with ⟨n, off, rfl⟩ | ⟨k, cs, rfl⟩
    · generalize a.eval x = q at h1; cases h1; exact ⟨_, rfl⟩
    · generalize a.eval x = q at h1; cases h1 with | d _ _ h => cases h; exact ⟨_, rfl⟩
  obtain ⟨ad, h2⟩ := h2
  simp [execOp, hop, h2]

theorem does_load_fp {t k : Nat} {x : Operand} {cs : List D} {ty : Ty} (hop : o.op = .load t x) (ht : tyOf P t = some ty) (hr : r x = some (.d (.fp k cs))) (hs : ty.size ≤ k) (h0 : 0 < k) : Does P mem nx r o (ldD ty cs) := by
  obtain ⟨u, i, ht⟩ := tyOf_ok ht
  refine .of_run (by unfold ldD; cases ty.kd.agg <;> rfl) fun κ g a w hi ho => ?_
  have h1 := ho x (by simp [hop, Op.operands]) _ hr
  cases h1 with | d _ _ h => ?_
  generalize ha : a.eval x = q at h
  cases h with | fp _ _ b off f hl hF hd => ?_
  refine ⟨_, ?_, ldD_ok (f := f) hd (by omega) (by omega)⟩
  simp only [execOp, hop, ha, Instr.loadAt, Instr.sureAddr, Sem.run_bind, Sem.run_pure, Result.andThen_ok]
  rw [run_loadVar ht (f := f) (fun j hj => hi.frz _ _ _ (hF j (by omega))) (hi.frz _ _ _ (hF 0 h0))]
  rfl

theorem does_load_ptr {t n off size : Nat} {x : Operand} {c : List AV} {ty : Ty} (hop : o.op = .load t x) (ht : tyOf P t = some ty) (hr : r x = some (.ptr n off)) (hm : look n mem = some (.cells size c)) (hs : off + ty.size ≤ size) (h0 : off < size) (hc : ∀ x ∈ c, x.lt1 nx = true) : Does P mem nx r o (ldA ty off c) := by
  obtain ⟨u, i, ht⟩ := tyOf_ok ht
  refine .of_run (ldA_lt hc) fun κ g a w hi ho => ?_
  have h1 := ho x (by simp [hop, Op.operands]) _ hr
  generalize ha : a.eval x = q at h1
  cases h1 with | ptr => ?_
  obtain ⟨arr, T, e1, e2, e3, e4, e5, e6⟩ := hi.obs n _ hm
  have hcell : ∀ j, j < size → w.cell? ⟨g.blk n, j, none⟩ = some (arr.getD j undef) := fun j hj => by
    simp [World.cell?, e1, Array.getD, show j < arr.size by omega]
  refine ⟨_, ?_, ldA_ok (f := fun j => arr.getD j undef) e4 e5 (by omega) (by omega)⟩
  simp only [execOp, hop, ha, Instr.loadAt, Instr.sureAddr, Sem.run_bind, Sem.run_pure, Result.andThen_ok]
  rw [run_loadVar ht (f := fun j => arr.getD (off + j) undef) (fun j hj => hcell _ (by omega)) (hcell _ h0)]
  rfl

theorem does_fieldAddr {t f fo fsz : Nat} {x : Operand} {fs : List (Nat × Nat)} {ty : Ty} {v p : AV} (hti : TiOK P ti) (hop : o.op = .fieldAddr t x f) (ht : tyOf P t = some ty) (hk : ty.kd = .struct fs) (hf : placeOf ti fs f = some (fo, fsz)) (h0 : 0 < fsz)
    (hr : r x = some p) (hv : (∃ n off, p = .ptr n off ∧ v = .ptr n (off + fo) ∧ n < nx) ∨ (∃ k cs, p = .d (.fp k cs) ∧ v = .d (.fp (k - fo) (cs.drop fo)) ∧ fo ≤ k) ∨ ∃ sz n k off, p = .vq sz n k off ∧ v = .vq sz n k (off + fo) ∧ n < nx) : Does P mem nx r o v := by
  obtain ⟨u, i, ht⟩ := tyOf_ok ht
  unfold placeOf at hf
  split at hf
  case h_2 => cases hf
  rename_i q off' ft hfs
  split at hf
  case h_2 => cases hf
  rename_i fty hfty
  simp only [Option.some.injEq, Prod.mk.injEq] at hf
  obtain ⟨rfl, rfl⟩ := hf
  obtain ⟨uf, fi, hft⟩ := tyOf_ok (hti _ _ hfty)
  have hkd := ht.kd
  rw [hk] at hkd
  have hu : ∃ fields : Array Field, u = .struct fields ∧ fields.toList.map (fun f => (f.offset, f.type)) = fs := by
    cases u <;> simp only [kdOf] at hkd <;> first | (cases hkd; done) | skip
    rename_i fields
    exact ⟨fields, rfl, by injection hkd⟩
  obtain ⟨fields, rfl, hfl⟩ := hu
  have hfield : ∃ fd : Field, fields[f]? = some fd ∧ fd.offset = off' ∧ fd.type = ft := by
    rw [← hfl, List.getElem?_map] at hfs
    cases hq : fields.toList[f]? with
    | none => rw [hq] at hfs; cases hfs
    | some fd =>
      rw [hq] at hfs
      simp only [Option.map_some, Option.some.injEq, Prod.mk.injEq] at hfs
      exact ⟨fd, by simpa using hq, hfs.1, hfs.2⟩
  obtain ⟨fd, hfd, rfl, rfl⟩ := hfield
  have hlt : v.lt nx = true := by
    rcases hv with ⟨n, off, _, rfl, hn⟩ | ⟨k, cs, _, rfl, _⟩ | ⟨sz, n, k, off, _, rfl, hn⟩
    · simp [AV.lt, AV.lt2, AV.lt1, AV.lt0, hn]
    · rfl
    · simp [AV.lt, AV.lt2, AV.lt1, AV.lt0, hn]
  refine .of_run hlt fun κ g a w hi ho => ?_
  have h1 := ho x (by simp [hop, Op.operands]) _ hr
  generalize ha : a.eval x = q at h1
  have main : ∀ b off, q = .pointer (some ⟨b, off, none⟩) → (execOp a.eval o).run P w = .ok (.value (.pointer (some ⟨b, off + fd.offset, none⟩))) w := by
    rintro b off rfl
    simp only [execOp, hop, ha, Instr.fieldAt, Instr.sureAddr, Sem.run_bind, Sem.run_pure, Result.andThen_ok, run_underlying ht.und, hfd, fieldPlace, run_sizeOf' hft.info, Sem.run_ite, hft.size, addr_add]
    rw [if_neg (by omega)]
    rfl
  rcases hv with ⟨n, off, rfl, rfl, hn⟩ | ⟨k, cs, rfl, rfl, hle⟩ | ⟨sz, n, k, off, rfl, rfl, hn⟩
  · cases h1 with | ptr => ?_
    exact ⟨_, main _ _ rfl, .ptr _ _⟩
  · cases h1 with | d _ _ h => ?_
    cases h with | fp _ _ b off f hl hF hd => ?_
    refine ⟨_, main _ _ rfl, .d _ _ (.fp _ _ _ _ (fun j => f (fd.offset + j)) (by simp [hl]) (fun j hj => ?_) fun j hj => ?_)⟩
    · rw [Nat.add_assoc]; exact hF _ (by omega)
    · simp only [List.length_drop] at hj
      simpa using hd (fd.offset + j) (by omega)
  · cases h1 with | vq _ _ _ _ hh => ?_
    exact ⟨_, main _ _ rfl, by rw [Nat.add_assoc]; exact .vq _ _ _ _ hh⟩
end
end Go.Sy

/- evVal is sound: the rest of the operations. Conditions: none. -/
namespace Go.Sy
set_option linter.unusedVariables false
set_option linter.unusedSimpArgs false

/-- New blocks, more that is frozen in them: all that was known stands. -/
theorem Inv.grow {κ : Ctx} {g g' : Gh} {mem : List (Nat × Ob)} {nx : Nat} {w w' : World} (hi : Inv κ g mem w) (hmem : ∀ n ob, look n mem = some ob → n < nx ∧ ob.lt nx = true) (he : Ext nx g g')
    (hsz : w.heap.size ≤ w'.heap.size) (hb : ∀ b, b < w.heap.size → w'.heap[b]? = w.heap[b]?) (hnew : ∀ b o v, g'.F b o = some v → g.F b o = some v ∨ w.heap.size ≤ b)
    (hfrz : ∀ b o v, g'.F b o = some v → w'.cell? ⟨b, o, none⟩ = some v) (h1 : w'.os = w.os) (h2 : w'.tape = w.tape) (h3 : w'.output = w.output) : Inv κ g' mem w' := by
  have lt_of : ∀ {b : Nat} {x : Obj}, w.heap[b]? = some x → b < w.heap.size := fun h => by
    rcases Nat.lt_or_ge _ w.heap.size with h' | h'
    · exact h'
    · rw [Array.getElem?_eq_none h'] at h; cases h
  have none_of : ∀ b o, b < w.heap.size → g.F b o = none → g'.F b o = none := fun b o hb hn => by
    cases hq : g'.F b o with
    | none => rfl
    | some v =>
      rcases hnew _ _ _ hq with h | h
      · rw [hn] at h; cases h
      · omega
  have on : ∀ n, On g' mem n → On g mem n := fun n h => by
    unfold On at *
    cases hl : look n mem with
    | none => rw [hl] at h; exact h
    | some ob =>
      rw [hl] at h
      cases ob with
      | cells => trivial
      | tail => exact (he.has n (hmem n _ hl).1) ▸ h
      | vec => exact (he.has n (hmem n _ hl).1) ▸ h
      | tag => exact h
      | frame => exact h
      | loop => trivial
  have bl : ∀ n, On g mem n → g'.blk n = g.blk n := fun n h => by
    unfold On at h
    cases hl : look n mem with
    | none => rw [hl] at h; exact h.elim
    | some ob => exact he.blk n (hmem n _ hl).1
  refine ⟨hfrz, fun n ob hn => ?_, fun n m hnm h h' => ?_, Nat.le_trans hi.size hsz, fun b hb' hm => ?_, fun n h => ?_, fun b o v h => he.F _ _ _ (hi.f0 _ _ _ h), fun b o v h => ?_, h1.trans hi.os, h2.trans hi.tape, h3.trans hi.output, fun D hD => by rw [hb D (lt_of (hi.dfr D hD))]; exact hi.dfr D hD⟩
  · obtain ⟨hn', hl⟩ := hmem n ob hn
    have := hi.obs n ob hn
    cases ob with
    | cells size c =>
      obtain ⟨arr, T, e1, e2, e3, e4, e5, e6⟩ := this
      have hlt := lt_of e1
      refine ⟨arr, T, ?_, e2, e3, e4, fun j hj => (e5 j hj).ext1 he ?_, fun o => ?_⟩
      · rw [he.blk n hn', hb _ hlt]; exact e1
      · simp only [Ob.lt, List.all_eq_true] at hl; exact hl _ (List.getElem_mem hj)
      · rw [he.blk n hn']; exact none_of _ _ hlt (e6 o)
    | tag m t =>
      obtain ⟨arr, fz, e⟩ := this
      simp only [Ob.lt, Nat.blt_eq] at hl
      exact ⟨arr, fz, by rw [he.blk m hl, hb _ (lt_of e)]; exact e⟩
    | vec t sz es f' => exact VecOK.mono this he.F (he.blk n hn') (he.hi n hn') (he.cp n hn') (he.has n hn') (fun hh => by obtain ⟨arr, e1, _⟩ := this.2.2 hh; exact hb _ (lt_of e1)) (fun hh o ho => by obtain ⟨arr, e1, _⟩ := this.2.2 hh; exact none_of _ _ (lt_of e1) ho)
    | tail =>
      refine ⟨fun hh => ?_, fun hb hh => by rw [he.hi n hn']; exact this.2 hb ((he.has n hn').symm.trans hh)⟩
      obtain ⟨arr, T, e1, e2, e3, e4⟩ := this.1 ((he.has n hn').symm.trans hh)
      have hlt := lt_of e1
      refine ⟨arr, T, ?_, ?_, ?_, fun o ho => ?_⟩
      · rw [he.blk n hn', hb _ hlt]; exact e1
      · rw [he.cp n hn']; exact e2
      · rw [he.cp n hn', he.hi n hn']; exact e3
      · rw [he.hi n hn'] at ho
        rw [he.blk n hn']; exact none_of _ _ hlt (e4 o ho)
    | frame sz l =>
      simp only [Ob.lt, List.all_eq_true] at hl
      exact ⟨this.1, fun s v hs => (this.2 s v hs).ext he (hl _ (look_mem hs))⟩
    | loop k ps asg body st pd =>
      obtain ⟨eb, fn, D, e⟩ := this
      exact ⟨(he.blk n hn').trans eb, fn, D, by rw [he.blk n hn', hb _ (lt_of e)]; exact e⟩
  · rw [bl n (on n h), bl m (on m h')]; exact hi.inj n m hnm (on n h) (on m h')
  · rw [hb b (by have := hi.size; omega)]; exact hi.pres b hb' hm
  · rw [bl n (on n h)]; exact hi.own n (on n h)
  · rcases hnew _ _ _ h with h | h
    · exact hi.fnew _ _ _ h
    · exact .inr (.inl (Nat.le_trans hi.size h))

/-- A new block, frozen as it is made. -/
theorem Inv.newFrozen {κ : Ctx} {g : Gh} {mem : List (Nat × Ob)} {nx : Nat} {w w' : World} {arr : Array Value} {T : TypeId} {fz : Nat × Nat} (hi : Inv κ g mem w) (hmem : ∀ n ob, look n mem = some ob → n < nx ∧ ob.lt nx = true)
    (hw : w'.heap = w.heap.push (.cells arr T fz)) (h1 : w'.os = w.os) (h2 : w'.tape = w.tape) (h3 : w'.output = w.output) (n : Nat) (hn : n ≤ arr.size) :
    ∃ g', Ext nx g g' ∧ Inv κ g' mem w' ∧ ∀ o, o < n → g'.F w.heap.size o = some (arr.getD o undef) := by
  have hold : ∀ b o v, g.F b o = some v → b < w.heap.size := fun b o v h => World.block_lt_of_cell? w ⟨b, o, none⟩ (hi.frz b o v h)
  refine ⟨{ g with F := fun b o => if b = w.heap.size then (if o < n then some (arr.getD o undef) else none) else g.F b o }, ⟨fun b o v h => ?_, fun _ _ => rfl, fun _ _ => rfl, fun _ _ => rfl, fun _ _ => rfl⟩, ?_, fun o ho => ?_⟩
  · show (if b = w.heap.size then _ else _) = _
    rw [if_neg (by have := hold _ _ _ h; omega)]; exact h
  · refine hi.grow hmem ⟨fun b o v h => ?_, fun _ _ => rfl, fun _ _ => rfl, fun _ _ => rfl, fun _ _ => rfl⟩ (by rw [hw]; simp) (fun b hb => ?_) (fun b o v h => ?_) (fun b o v h => ?_) h1 h2 h3
    · show (if b = w.heap.size then _ else _) = _
      rw [if_neg (by have := hold _ _ _ h; omega)]; exact h
    · rw [hw, Array.getElem?_push, if_neg (by omega)]
    · have h' : (if b = w.heap.size then (if o < n then some (arr.getD o undef) else none) else g.F b o) = some v := h
      by_cases hb : b = w.heap.size
      · exact .inr (by omega)
      · rw [if_neg hb] at h'; exact .inl h'
    · have h' : (if b = w.heap.size then (if o < n then some (arr.getD o undef) else none) else g.F b o) = some v := h
      by_cases hb : b = w.heap.size
      · rw [if_pos hb] at h'
        by_cases ho : o < n
        · rw [if_pos ho] at h'
          obtain rfl := Option.some.inj h'
          subst hb
          simp [World.cell?, hw, Array.getD, show o < arr.size by omega]
        · rw [if_neg ho] at h'; cases h'
      · rw [if_neg hb] at h'
        have hc := hi.frz _ _ _ h'
        have hlt := hold _ _ _ h'
        simp only [World.cell?] at hc ⊢
        rw [hw, Array.getElem?_push, if_neg (by omega)]; exact hc
  · show (if w.heap.size = w.heap.size then _ else _) = _
    rw [if_pos rfl, if_pos ho]

section
variable {P : Program} {ti : Nat → Option Ty} {mem : List (Nat × Ob)} {nx : Nat} {r : Operand → Option AV} {o : Oper} {K : AV → Prop}

theorem fields_of {t : Nat} {ty : Ty} {u : TypeDesc} {i : TypeInfo} {fs : List (Nat × Nat)} (ht : TyOK P t ty u i) (hk : ty.kd = .struct fs) : ∃ fields : Array Field, u = .struct fields ∧ fields.toList.map (fun f => (f.offset, f.type)) = fs := by
  have hkd := ht.kd
  rw [hk] at hkd
  cases u <;> simp only [kdOf] at hkd <;> first | (cases hkd; done) | skip
  rename_i fields
  exact ⟨fields, rfl, by injection hkd⟩

theorem field_of {fields : Array Field} {fs : List (Nat × Nat)} (hfl : fields.toList.map (fun f => (f.offset, f.type)) = fs) {f fo ft : Nat} (hfs : fs[f]? = some (fo, ft)) : ∃ fd : Field, fields[f]? = some fd ∧ fd.offset = fo ∧ fd.type = ft := by
  rw [← hfl, List.getElem?_map] at hfs
  cases hq : fields.toList[f]? with
  | none => rw [hq] at hfs; cases hfs
  | some fd =>
    rw [hq] at hfs
    simp only [Option.map_some, Option.some.injEq, Prod.mk.injEq] at hfs
    exact ⟨fd, by simpa using hq, hfs.1, hfs.2⟩

theorem slice_of {t : Nat} {ty : Ty} {u : TypeDesc} {i : TypeInfo} {e : Nat} (ht : TyOK P t ty u i) (hk : ty.kd = .slice e) : u = .slice e := by
  have hkd := ht.kd
  rw [hk] at hkd
  cases u <;> simp only [kdOf] at hkd <;> first | (cases hkd; done) | skip
  cases hkd; rfl

theorem arr_of {t : Nat} {ty : Ty} {u : TypeDesc} {i : TypeInfo} {n e : Nat} (ht : TyOK P t ty u i) (hk : ty.kd = .arr n e) : u = .array n e := by
  have hkd := ht.kd
  rw [hk] at hkd
  cases u <;> simp only [kdOf] at hkd <;> first | (cases hkd; done) | skip
  cases hkd; rfl

theorem string_of {t : Nat} {ty : Ty} {u : TypeDesc} {i : TypeInfo} (ht : TyOK P t ty u i) (hk : ty.kd = .string) : u = .string := by
  have hkd := ht.kd
  rw [hk] at hkd
  cases u <;> simp only [kdOf] at hkd <;> first | (cases hkd; done) | rfl

theorem int_of {t : Nat} {ty : Ty} {u : TypeDesc} {i : TypeInfo} {k : IntKind} (ht : TyOK P t ty u i) (hk : ty.kd = .int k) : u = .int k := by
  have hkd := ht.kd
  rw [hk] at hkd
  cases u <;> simp only [kdOf] at hkd <;> first | (cases hkd; done) | skip
  cases hkd; rfl

theorem bool_of {t : Nat} {ty : Ty} {u : TypeDesc} {i : TypeInfo} (ht : TyOK P t ty u i) (hk : ty.kd = .bool) : u = .bool := by
  have hkd := ht.kd
  rw [hk] at hkd
  cases u <;> simp only [kdOf] at hkd <;> first | (cases hkd; done) | rfl

theorem run_part {t : Nat} {ty : Ty} {u : TypeDesc} {i : TypeInfo} (ht : TyOK P t ty u i) (vs : Array Value) (off : Nat) (h : off + ty.size ≤ vs.size) (h0 : off < vs.size) (w : World) :
    (part t vs off).run P w = .ok (if ty.kd.agg then .agg ((List.range ty.size).map fun j => vs.getD (off + j) undef).toArray else vs.getD (off + 0) undef) w := by
  simp only [part, Sem.run_bind, run_isAgg' ht.und, Result.andThen_ok, ht.kd]
  cases ty.kd.agg with
  | true =>
    simp only [if_true, Sem.run_bind, run_sizeOf' ht.info, Result.andThen_ok, ht.size, Sem.run_pure]
    congr 2
    apply Array.ext
    · simp; omega
    · intro j h1 h2
      simp only [Array.size_extract] at h1
      simp [Array.getD, show off + j < vs.size by omega]
  | false =>
    simp only [Bool.false_eq_true, if_false, Nat.add_zero]
    simp [h0, Array.getD]

theorem does_field_d {t f fo ft k : Nat} {x : Operand} {fs : List (Nat × Nat)} {ty fty : Ty} {cs : List D} (hti : TiOK P ti) (hop : o.op = .field t x f) (ht : tyOf P t = some ty) (hk : ty.kd = .struct fs) (hf : fs[f]? = some (fo, ft)) (hft : ti ft = some fty)
    (hr : r x = some (.dg k cs)) (hs : fo + fty.size ≤ k) (h0 : fo < k) : Does P mem nx r o (ldD fty (cs.drop fo)) := by
  obtain ⟨u, i, ht⟩ := tyOf_ok ht
  obtain ⟨uf, fi, hft⟩ := tyOf_ok (hti _ _ hft)
  obtain ⟨fields, rfl, hfl⟩ := fields_of ht hk
  obtain ⟨fd, hfd, rfl, rfl⟩ := field_of hfl hf
  refine .of_run ldD_lt fun κ g a w hi ho => ?_
  have h1 := ho x (by simp [hop, Op.operands]) _ hr
  generalize ha : a.eval x = q at h1
  cases h1 with | dg _ _ vs e1 e2 e3 => ?_
  have hrel : ∀ j (h : j < (cs.drop fd.offset).length), DR g.F (cs.drop fd.offset)[j] (vs.getD (fd.offset + j) undef) := fun j hj => by
    simp only [List.length_drop] at hj
    simpa using e3 (fd.offset + j) (by omega)
  refine ⟨_, ?_, ldD_ok (f := fun j => vs.getD (fd.offset + j) undef) hrel (by simp; omega) (by simp; omega)⟩
  simp only [execOp, hop, ha, Instr.field, asAgg, Sem.run_bind, Sem.run_pure, Result.andThen_ok, run_underlying ht.und, hfd]
  rw [run_part hft vs fd.offset (by omega) (by omega)]
  rfl

theorem does_field_a {t f fo ft k : Nat} {x : Operand} {fs : List (Nat × Nat)} {ty fty : Ty} {cs : List AV} (hti : TiOK P ti) (hop : o.op = .field t x f) (ht : tyOf P t = some ty) (hk : ty.kd = .struct fs) (hf : fs[f]? = some (fo, ft)) (hft : ti ft = some fty)
    (hr : r x = some (.ag k cs)) (hl : (AV.ag k cs).lt nx = true) (hs : fo + fty.size ≤ k) (h0 : fo < k) : Does P mem nx r o (ldA fty fo cs) := by
  obtain ⟨u, i, ht⟩ := tyOf_ok ht
  obtain ⟨uf, fi, hft⟩ := tyOf_ok (hti _ _ hft)
  obtain ⟨fields, rfl, hfl⟩ := fields_of ht hk
  obtain ⟨fd, hfd, rfl, rfl⟩ := field_of hfl hf
  simp only [AV.lt, AV.lt2, List.all_eq_true] at hl
  refine .of_run (ldA_lt hl) fun κ g a w hi ho => ?_
  have h1 := ho x (by simp [hop, Op.operands]) _ hr
  generalize ha : a.eval x = q at h1
  cases h1 with | ag _ _ vs e1 e2 e3 e4 => ?_
  refine ⟨_, ?_, ldA_ok (f := fun j => vs.getD j undef) e3 e4 (by omega) (by omega)⟩
  simp only [execOp, hop, ha, Instr.field, asAgg, Sem.run_bind, Sem.run_pure, Result.andThen_ok, run_underlying ht.und, hfd]
  rw [run_part hft vs fd.offset (by omega) (by omega)]
  rfl

theorem sliceOf_ok {g : Gh} {v : AV} {sz : Nat} {es : List (List D)} {u : Value} (h : sliceOf v = some (sz, es)) (hu : AVR g v u) : DR g.F (.fs sz es) u := by
  unfold sliceOf at h
  split at h
  · simp only [Option.some.injEq, Prod.mk.injEq] at h; obtain ⟨rfl, rfl⟩ := h; cases hu; assumption
  · simp only [Option.some.injEq, Prod.mk.injEq] at h; obtain ⟨rfl, rfl⟩ := h
    cases hu with
    | ts0 => assumption
    | ts => assumption
  · simp only [Option.some.injEq, Prod.mk.injEq] at h; obtain ⟨rfl, rfl⟩ := h; cases hu; assumption
  · simp only [Option.some.injEq, Prod.mk.injEq] at h; obtain ⟨rfl, rfl⟩ := h; cases hu; exact .fs0 _ _ _
  · cases h

theorem evalInt {g : Gh} {a : Act} {x : Operand} {k : IntKind} {n : Int} (h : AVR g (.d (.it k n)) (a.eval x)) : a.eval x = .int k n := by
  generalize a.eval x = q at h
  cases h with | d _ _ h => cases h; rfl

theorem evalStr {g : Gh} {a : Act} {x : Operand} {l : List UInt8} (h : AVR g (.d (.st l)) (a.eval x)) : a.eval x = .string ⟨l.toArray⟩ := by
  generalize a.eval x = q at h
  cases h with | d _ _ h => cases h; rfl

theorem evalBool {g : Gh} {a : Act} {x : Operand} {b : Bool} (h : AVR g (.d (.bl b)) (a.eval x)) : a.eval x = .bool b := by
  generalize a.eval x = q at h
  cases h with | d _ _ h => cases h; rfl

theorem does_indexAddr_slice {t e : Nat} {x y : Operand} {ty ety : Ty} {v : AV} {sz : Nat} {es : List (List D)} {k : IntKind} {n : Int} {c : List D} (hti : TiOK P ti) (hop : o.op = .indexAddr t x y) (ht : tyOf P t = some ty) (hk : ty.kd = .slice e) (he : ti e = some ety)
    (hx : r x = some v) (hv : sliceOf v = some (sz, es)) (hy : r y = some (.d (.it k n))) (hsz : sz = ety.size) (hn : 0 ≤ n ∧ n < es.length) (hc : es[n.toNat]? = some c) : Does P mem nx r o (.d (.fp sz c)) := by
  obtain ⟨u, i, ht⟩ := tyOf_ok ht
  obtain ⟨ue, ie, het⟩ := tyOf_ok (hti _ _ he)
  obtain rfl := slice_of ht hk
  refine .of_run rfl fun κ g a w hi ho => ?_
  have h1 := ho x (by simp [hop, Op.operands]) _ hx
  have h2 := evalInt (ho y (by simp [hop, Op.operands]) _ hy)
  have h3 := sliceOf_ok hv h1
  generalize ha : a.eval x = q at h3
  have hlt : n.toNat < es.length := by omega
  have hcc : c = es[n.toNat] := by rw [List.getElem?_eq_getElem hlt] at hc; exact (Option.some.inj hc).symm
  cases h3 with
  | fs0 => simp at hlt
  | fs _ _ b off len cap vs hl hcap hs hF hd =>
    refine ⟨.pointer (some ⟨b, off + n.toNat * sz, none⟩), ?_, .d _ _ (.fp _ _ _ _ (fun j => vs n.toNat j) (by rw [hcc]; exact hs _ hlt) (fun j hj => hF _ _ (by omega) hj) fun j hj => ?_)⟩
    · have hcond : (0 : Int) ≤ n ∧ n < (len : Int) := by omega
      simp only [execOp, hop, ha, h2, Instr.indexAt, asIntOf, Sem.run_bind, Sem.run_pure, Result.andThen_ok, run_underlying ht.und, Sem.run_ite]
      rw [if_pos hcond]
      simp only [Sem.run_bind, run_sizeOf' het.info, Result.andThen_ok, Sem.run_pure, addr_add, het.size, hsz]
    · subst hcc; exact hd _ hlt j hj

theorem does_indexAddr_arr {t e len k : Nat} {x y : Operand} {ty ety : Ty} {cs : List D} {kk : IntKind} {n : Int} (hti : TiOK P ti) (hop : o.op = .indexAddr t x y) (ht : tyOf P t = some ty) (hk : ty.kd = .arr len e) (he : ti e = some ety)
    (hx : r x = some (.d (.fp k cs))) (hy : r y = some (.d (.it kk n))) (hle : len * ety.size ≤ k) (hn : 0 ≤ n ∧ n < len) : Does P mem nx r o (.d (.fp ety.size ((cs.drop (n.toNat * ety.size)).take ety.size))) := by
  obtain ⟨u, i, ht⟩ := tyOf_ok ht
  obtain ⟨ue, ie, het⟩ := tyOf_ok (hti _ _ he)
  obtain rfl := arr_of ht hk
  refine .of_run rfl fun κ g a w hi ho => ?_
  have h1 := ho x (by simp [hop, Op.operands]) _ hx
  have h2 := evalInt (ho y (by simp [hop, Op.operands]) _ hy)
  generalize ha : a.eval x = q at h1
  cases h1 with | d _ _ h1 => ?_
  cases h1 with | fp _ _ b off f hl hF hd => ?_
  have hm : n.toNat * ety.size + ety.size ≤ k := by
    have : (n.toNat + 1) * ety.size ≤ len * ety.size := Nat.mul_le_mul_right _ (by omega)
    rw [Nat.add_mul] at this; omega
  refine ⟨.pointer (some ⟨b, off + n.toNat * ety.size, none⟩), ?_, .d _ _ (.fp _ _ _ _ (fun j => f (n.toNat * ety.size + j)) (by simp; omega) (fun j hj => by rw [Nat.add_assoc]; exact hF _ (by omega)) fun j hj => ?_)⟩
  · have hcond : (0 : Int) ≤ n ∧ n < (len : Int) := by omega
    simp only [execOp, hop, ha, h2, Instr.indexAt, asIntOf, Instr.sureAddr, Sem.run_bind, Sem.run_pure, Result.andThen_ok, run_underlying ht.und, Sem.run_ite]
    rw [if_pos hcond]
    simp only [Sem.run_bind, run_sizeOf' het.info, Result.andThen_ok, Sem.run_pure, addr_add, het.size]
  · simp only [List.length_take, List.length_drop] at hj
    simpa using hd (n.toNat * ety.size + j) (by omega)

theorem does_index_str {t : Nat} {x y : Operand} {ty : Ty} {l : List UInt8} {k : IntKind} {n : Int} {c : UInt8} (hop : o.op = .index t x y) (ht : tyOf P t = some ty) (hk : ty.kd = .string)
    (hx : r x = some (.d (.st l))) (hy : r y = some (.d (.it k n))) (hn : 0 ≤ n ∧ n < l.length) (hc : l[n.toNat]? = some c) : Does P mem nx r o (.d (.it .u8 c.toNat)) := by
  obtain ⟨u, i, ht⟩ := tyOf_ok ht
  obtain rfl := string_of ht hk
  refine .of_run rfl fun κ g a w hi ho => ?_
  have h1 := evalStr (ho x (by simp [hop, Op.operands]) _ hx)
  have h2 := evalInt (ho y (by simp [hop, Op.operands]) _ hy)
  refine ⟨_, ?_, .d _ _ (.it _ _)⟩
  have hg : (⟨l.toArray⟩ : ByteArray)[n.toNat]? = some c := by
    have hlt : n.toNat < l.length := by omega
    have h3 : n.toNat < (⟨l.toArray⟩ : ByteArray).size := by simpa [ByteArray.size] using hlt
    rw [getElem?_pos (⟨l.toArray⟩ : ByteArray) n.toNat h3]
    have h4 : l[n.toNat] = c := by rw [List.getElem?_eq_getElem hlt] at hc; exact Option.some.inj hc
    rw [← h4]; rfl
  simp only [execOp, hop, h1, h2, Instr.index, asIntOf, Sem.run_bind, Sem.run_pure, Result.andThen_ok, run_underlying ht.und, if_pos hn.1, hg]

theorem does_index_arr {t e len k : Nat} {x y : Operand} {ty ety : Ty} {cs : List D} {kk : IntKind} {n : Int} (hti : TiOK P ti) (hop : o.op = .index t x y) (ht : tyOf P t = some ty) (hk : ty.kd = .arr len e) (he : ti e = some ety)
    (hx : r x = some (.dg k cs)) (hy : r y = some (.d (.it kk n))) (hle : len * ety.size ≤ k) (h0 : 0 < ety.size) (hn : 0 ≤ n ∧ n < len) : Does P mem nx r o (ldD ety (cs.drop (n.toNat * ety.size))) := by
  obtain ⟨u, i, ht⟩ := tyOf_ok ht
  obtain ⟨ue, ie, het⟩ := tyOf_ok (hti _ _ he)
  obtain rfl := arr_of ht hk
  refine .of_run ldD_lt fun κ g a w hi ho => ?_
  have h1 := ho x (by simp [hop, Op.operands]) _ hx
  have h2 := evalInt (ho y (by simp [hop, Op.operands]) _ hy)
  generalize ha : a.eval x = q at h1
  cases h1 with | dg _ _ vs e1 e2 e3 => ?_
  have hm : n.toNat * ety.size + ety.size ≤ k := by
    have : (n.toNat + 1) * ety.size ≤ len * ety.size := Nat.mul_le_mul_right _ (by omega)
    rw [Nat.add_mul] at this; omega
  have hrel : ∀ j (h : j < (cs.drop (n.toNat * ety.size)).length), DR g.F (cs.drop (n.toNat * ety.size))[j] (vs.getD (n.toNat * ety.size + j) undef) := fun j hj => by
    simp only [List.length_drop] at hj
    simpa using e3 (n.toNat * ety.size + j) (by omega)
  refine ⟨_, ?_, ldD_ok (f := fun j => vs.getD (n.toNat * ety.size + j) undef) hrel (by simp; omega) (by simp; omega)⟩
  have hcond : (0 : Int) ≤ n ∧ n < (len : Int) := by omega
  simp only [execOp, hop, ha, h2, Instr.index, asIntOf, Sem.run_bind, Sem.run_pure, Result.andThen_ok, run_underlying ht.und, Sem.run_ite]
  rw [if_pos hcond]
  simp only [Sem.run_bind, run_sizeOf' het.info, Result.andThen_ok, het.size]
  rw [run_part het vs _ (by omega) (by omega)]
  rfl
end
end Go.Sy

/- evVal is sound: slices of slices and strings, arithmetic, conversions, literals, calls. Conditions: none. -/
namespace Go.Sy
set_option linter.unusedVariables false
set_option linter.unusedSimpArgs false

section
variable {P : Program} {ti : Nat → Option Ty} {mem : List (Nat × Ob)} {nx : Nat} {r : Operand → Option AV} {o : Oper} {K : AV → Prop}

theorem run_bound {v : Value} {k : IntKind} {n : Int} {y : Nat} {c : BoundsCode} (hv : v = .int k n) (h : 0 ≤ n ∧ n ≤ y) (w : World) : (Instr.sliceBound v y c).run P w = .ok n.toNat w := by
  subst hv
  simp only [Instr.sliceBound, asIntOf, Sem.run_bind, Sem.run_pure, Result.andThen_ok]
  rw [if_pos h]; rfl

/-- The bounds of a slice expression, as numbers. -/
def bds (len cap : Nat) (lo hi mx : Option Int) : Nat × Nat × Nat :=
  ((lo.map Int.toNat).getD 0, (hi.map Int.toNat).getD len, (mx.map Int.toNat).getD cap)

theorem run_bounds (b : Bool) (len cap : Nat) (lo hi mx : Option Value) (i j m : Option Int) (h1 : lo = i.map (.int .i64)) (h2 : hi = j.map (.int .i64)) (h3 : mx = m.map (.int .i64)) (hm : mx.isSome → hi.isSome)
    (hle : len ≤ cap) (c1 : ∀ x, i = some x → 0 ≤ x) (c2 : ∀ x, j = some x → 0 ≤ x) (c3 : ∀ x, m = some x → 0 ≤ x) (hlo : (bds len cap i j m).1 ≤ (bds len cap i j m).2.1) (hhi : (bds len cap i j m).2.1 ≤ (bds len cap i j m).2.2) (hmx : (bds len cap i j m).2.2 ≤ cap) (w : World) :
    (Instr.sliceBounds b len cap lo hi mx).run P w = .ok (bds len cap i j m) w := by
  subst h1 h2 h3
  simp only [bds] at *
  cases m with
  | none =>
    cases j with
    | none =>
      cases i with
      | none => simp [Instr.sliceBounds]
      | some i =>
        simp at hlo hhi hmx
        have c := c1 i rfl
        simp only [Instr.sliceBounds, Option.map, Sem.run_bind, Sem.run_pure, Result.andThen_ok]
        rw [run_bound rfl ⟨c, by omega⟩]; rfl
    | some j =>
      have c := c2 j rfl
      simp at hlo hhi hmx
      cases i with
      | none =>
        simp only [Instr.sliceBounds, Option.map, Sem.run_bind, Sem.run_pure, Result.andThen_ok]
        rw [run_bound rfl ⟨c, by omega⟩]; rfl
      | some i =>
        simp at hlo
        have c' := c1 i rfl
        simp only [Instr.sliceBounds, Option.map, Sem.run_bind, Sem.run_pure, Result.andThen_ok]
        rw [run_bound rfl ⟨c, by omega⟩]
        simp only [Result.andThen_ok]
        rw [run_bound rfl ⟨c', by omega⟩]; rfl
  | some m =>
    have cm := c3 m rfl
    cases j with
    | none => simp at hm
    | some j =>
      have c := c2 j rfl
      simp at hlo hhi hmx
      cases i with
      | none =>
        simp only [Instr.sliceBounds, Option.map, Sem.run_bind, Sem.run_pure, Result.andThen_ok]
        rw [run_bound rfl ⟨cm, by omega⟩]
        simp only [Result.andThen_ok]
        rw [run_bound rfl ⟨c, by omega⟩]; rfl
      | some i =>
        simp at hlo
        have c' := c1 i rfl
        simp only [Instr.sliceBounds, Option.map, Sem.run_bind, Sem.run_pure, Result.andThen_ok]
        rw [run_bound rfl ⟨cm, by omega⟩]
        simp only [Result.andThen_ok]
        rw [run_bound rfl ⟨c, by omega⟩]
        simp only [Result.andThen_ok]
        rw [run_bound rfl ⟨c', by omega⟩]; rfl

theorem DR.sub {F : Nat → Nat → Option Value} {sz : Nat} {es : List (List D)} {a : Option Addr} {len cap : Nat} (h : DR F (.fs sz es) (.slice a len cap)) {i j m : Nat} (hij : i ≤ j) (hj : j ≤ es.length) (hjm : j ≤ m) :
    DR F (.fs sz ((es.take j).drop i)) (.slice (if m = i then a else a.map (·.add (i * sz))) (j - i) (m - i)) := by
  by_cases he : j = i
  · subst he
    have : (es.take j).drop j = [] := by simp
    rw [this, Nat.sub_self]
    exact .fs0 _ _ _
  · have hpos : 0 < es.length := by omega
    cases h with
    | fs0 => simp at hpos
    | fs _ _ b off len cap vs hl hcap hs hF hd =>
      rw [if_neg (by omega)]
      simp only [Option.map, addr_add]
      refine .fs _ _ _ _ _ _ (fun x y => vs (i + x) y) (by simp; omega) (by omega) (fun x hx => ?_) (fun x y hx hy => ?_) fun x hx y hy => ?_
      · simp only [List.length_drop, List.length_take] at hx
        simp only [List.getElem_drop, List.getElem_take]
        exact hs _ _
      · have := hF (i + x) y (by omega) hy
        rw [Nat.add_mul] at this
        rw [← this]; congr 1; omega
      · simp only [List.length_drop, List.length_take] at hx
        simp only [List.getElem_drop, List.getElem_take] at hy ⊢
        exact hd _ _ _ hy

def mapI (x : Option Operand) (i : Option Int) (r : Operand → Option AV) : Prop :=
  match x, i with
  | none, none => True
  | some x, some n => r x = some (.d (.it .i64 n))
  | _, _ => False

theorem mapI_ok {g : Gh} {a : Act} {x : Option Operand} {i : Option Int} (h : mapI x i r) (hm : ∀ y, x = some y → y ∈ o.op.operands.toList) (ho : ∀ x ∈ o.op.operands.toList, ∀ v, r x = some v → AVR g v (a.eval x)) : x.map a.eval = i.map (.int .i64) := by
  cases x <;> cases i <;> simp only [mapI] at h
  · rfl
  · simp only [Option.map, Option.some.injEq]
    exact evalInt (ho _ (hm _ rfl) _ h)

theorem does_slice_slice {t e : Nat} {x : Operand} {lo hi mx : Option Operand} {i j m : Option Int} {ty ety : Ty} {v : AV} {sz : Nat} {es : List (List D)} (hti : TiOK P ti) (hop : o.op = .slice t x lo hi mx) (ht : tyOf P t = some ty) (hk : ty.kd = .slice e) (he : ti e = some ety)
    (hx : r x = some v) (hv : sliceOf v = some (sz, es)) (hsz : sz = ety.size) (h1 : mapI lo i r) (h2 : mapI hi j r) (h3 : mapI mx m r) (hm : mx.isSome → hi.isSome)
    (c1 : ∀ x, i = some x → 0 ≤ x) (c2 : ∀ x, j = some x → 0 ≤ x) (c3 : ∀ x, m = some x → 0 ≤ x ∧ x ≤ es.length ∧ j = some x) (hlo : (i.map Int.toNat).getD 0 ≤ (j.map Int.toNat).getD es.length) (hhi : (j.map Int.toNat).getD es.length ≤ es.length) :
    Does P mem nx r o (if mx.isSome then .tg sz ((es.take ((j.map Int.toNat).getD es.length)).drop ((i.map Int.toNat).getD 0)) else .d (.fs sz ((es.take ((j.map Int.toNat).getD es.length)).drop ((i.map Int.toNat).getD 0)))) := by
  obtain ⟨u, inf, ht⟩ := tyOf_ok ht
  obtain ⟨ue, ie, het⟩ := tyOf_ok (hti _ _ he)
  obtain rfl := slice_of ht hk
  refine .of_run (by split <;> rfl) fun κ g a w hi' ho => ?_
  have hxv := sliceOf_ok hv (ho x (by simp [hop, Op.operands]) _ hx)
  have e1 := mapI_ok (o := o) (g := g) (a := a) h1 (fun y hy => by subst hy; simp [hop, Op.operands]) ho
  have e2 := mapI_ok (o := o) (g := g) (a := a) h2 (fun y hy => by subst hy; simp [hop, Op.operands]) ho
  have e3 := mapI_ok (o := o) (g := g) (a := a) h3 (fun y hy => by subst hy; simp [hop, Op.operands]) ho
  generalize ha : a.eval x = q at hxv
  have hq : ∃ ad len cap, q = .slice ad len cap ∧ len = es.length ∧ len ≤ cap := by
    cases hxv with
    | fs0 => exact ⟨_, _, _, rfl, rfl, Nat.zero_le _⟩
    | fs => exact ⟨_, _, _, rfl, by omega, by omega⟩
  obtain ⟨ad, len, cap, rfl, rfl, hcap⟩ := hq
  have hmx : (mx.map a.eval).isSome → (hi.map a.eval).isSome := fun h => by simpa using hm (by simpa using h)
  have hB : (bds es.length cap i j m).2.1 ≤ (bds es.length cap i j m).2.2 ∧ (bds es.length cap i j m).2.2 ≤ cap := by
    cases m with
    | none => exact ⟨Nat.le_trans (m := es.length) hhi hcap, Nat.le_refl _⟩
    | some m =>
      obtain ⟨q1, q2, q3⟩ := c3 m rfl
      subst q3
      simp only [bds, Option.map, Option.getD] at hhi ⊢
      exact ⟨Nat.le_refl _, by omega⟩
  have hrun := run_bounds (P := P) true es.length cap (lo.map a.eval) (hi.map a.eval) (mx.map a.eval) i j m e1 e2 e3 hmx hcap c1 c2 (fun x hx => (c3 x hx).1) hlo hB.1 hB.2 w
  refine ⟨.slice (if (bds es.length cap i j m).2.2 = (bds es.length cap i j m).1 then ad else ad.map (·.add ((bds es.length cap i j m).1 * sz))) ((bds es.length cap i j m).2.1 - (bds es.length cap i j m).1) ((bds es.length cap i j m).2.2 - (bds es.length cap i j m).1), ?_, ?_⟩
  rotate_left
  · have hd := hxv.sub (i := (bds es.length cap i j m).1) (j := (bds es.length cap i j m).2.1) (m := (bds es.length cap i j m).2.2) hlo hhi hB.1
    split
    · rename_i hs
      have hmj : (bds es.length cap i j m).2.2 = (bds es.length cap i j m).2.1 := by
        cases m with
        | none => cases mx <;> simp [mapI] at h3 hs
        | some m =>
          obtain ⟨q1, q2, q3⟩ := c3 m rfl
          subst q3; rfl
      rw [hmj] at hd ⊢
      exact .tg _ _ _ _ (by simp only [bds] at *; simp; omega) hd
    · exact .d _ _ hd
  · simp only [execOp, hop, ha, Instr.sliceAt, Sem.run_bind, Sem.run_pure, Result.andThen_ok, run_underlying ht.und, Instr.slice, hrun, run_sizeOf' het.info, het.size, ← hsz]

theorem bytes_extract (l : List UInt8) (i j : Nat) : (⟨l.toArray⟩ : ByteArray).extract i j = ⟨((l.take j).drop i).toArray⟩ := by
  apply ByteArray.ext
  simp only [ByteArray.data_extract]
  apply Array.ext'
  simp [List.extract_eq_take_drop, List.drop_take]

theorem does_slice_str {t : Nat} {x : Operand} {lo hi : Option Operand} {i j : Option Int} {ty : Ty} {l : List UInt8} (hop : o.op = .slice t x lo hi none) (ht : tyOf P t = some ty) (hk : ty.kd = .string)
    (hx : r x = some (.d (.st l))) (h1 : mapI lo i r) (h2 : mapI hi j r)
    (c1 : ∀ x, i = some x → 0 ≤ x) (c2 : ∀ x, j = some x → 0 ≤ x) (hlo : (i.map Int.toNat).getD 0 ≤ (j.map Int.toNat).getD l.length) (hhi : (j.map Int.toNat).getD l.length ≤ l.length) :
    Does P mem nx r o (.d (.st ((l.take ((j.map Int.toNat).getD l.length)).drop ((i.map Int.toNat).getD 0)))) := by
  obtain ⟨u, inf, ht⟩ := tyOf_ok ht
  obtain rfl := string_of ht hk
  refine .of_run rfl fun κ g a w hi' ho => ?_
  have hxv := evalStr (ho x (by simp [hop, Op.operands]) _ hx)
  have e1 := mapI_ok (o := o) (g := g) (a := a) h1 (fun y hy => by subst hy; simp [hop, Op.operands]) ho
  have e2 := mapI_ok (o := o) (g := g) (a := a) h2 (fun y hy => by subst hy; simp [hop, Op.operands]) ho
  have hrun := run_bounds (P := P) false l.length l.length (lo.map a.eval) (hi.map a.eval) none i j none e1 e2 rfl (by simp) (Nat.le_refl _) c1 c2 (fun x hx => by cases hx) hlo (by simpa [bds] using hhi) (by simp [bds]) w
  refine ⟨_, ?_, .d _ _ (.st _)⟩
  rw [← bytes_extract]
  have hsz : (⟨l.toArray⟩ : ByteArray).size = l.length := by simp [ByteArray.size]
  have hmn : Option.map a.eval (none : Option Operand) = none := rfl
  simp only [execOp, hop, hxv, Instr.sliceAt, hmn, Sem.run_bind, Sem.run_pure, Result.andThen_ok, run_underlying ht.und, Instr.slice, hsz, Option.isSome, Bool.false_eq_true, if_false, hrun, bds]

theorem binI_ok {op : BinOp} {k : IntKind} {a b : Int} {K : D → Prop} (h : binI op k a b K) : ∃ z v, K z ∧ (∀ F, DR F z v) ∧ ∀ (t : TypeId) (l : IntKind), (l = k ∨ op = .shl ∨ op = .shr) → ∀ w, (binOp op t (.int k a) (.int l b)).run P w = .ok v w := by
  cases op <;> simp only [binI] at h
  case shl => exact ⟨_, _, h.2.run, fun F => .it _ _, fun t l hl w => by simp [binOp, Op.shift, show ¬ b < 0 by omega]⟩
  case shr => exact ⟨_, _, h.2.run, fun F => .it _ _, fun t l hl w => by simp [binOp, Op.shift, show ¬ b < 0 by omega]⟩
  case quo => exact ⟨_, _, h.2.run, fun F => .it _ _, fun t l hl w => by obtain rfl := hl.resolve_right (by simp); simp [binOp, Op.intDiv, h.1]⟩
  case rem => exact ⟨_, _, h.2.run, fun F => .it _ _, fun t l hl w => by obtain rfl := hl.resolve_right (by simp); simp [binOp, Op.intDiv, h.1]⟩
  case and => exact ⟨_, _, h.run, fun F => .it _ _, fun t l hl w => by obtain rfl := hl.resolve_right (by simp); simp [binOp, Op.intBits]⟩
  case or => exact ⟨_, _, h.run, fun F => .it _ _, fun t l hl w => by obtain rfl := hl.resolve_right (by simp); simp [binOp, Op.intBits]⟩
  case xor => exact ⟨_, _, h.run, fun F => .it _ _, fun t l hl w => by obtain rfl := hl.resolve_right (by simp); simp [binOp, Op.intBits]⟩
  case andNot => exact ⟨_, _, h.run, fun F => .it _ _, fun t l hl w => by obtain rfl := hl.resolve_right (by simp); simp [binOp, Op.intBits]⟩
  case add => exact ⟨_, _, h.run, fun F => .it _ _, fun t l hl w => by obtain rfl := hl.resolve_right (by simp); simp [binOp, Op.intArith]⟩
  case sub => exact ⟨_, _, h.run, fun F => .it _ _, fun t l hl w => by obtain rfl := hl.resolve_right (by simp); simp [binOp, Op.intArith]⟩
  case mul => exact ⟨_, _, h.run, fun F => .it _ _, fun t l hl w => by obtain rfl := hl.resolve_right (by simp); simp [binOp, Op.intArith]⟩
  all_goals exact ⟨_, _, h, fun F => .bl _, fun t l hl w => by obtain rfl := hl.resolve_right (by simp); simp [binOp, Op.intCmp]⟩

theorem ba_toList (l : List UInt8) : (⟨l.toArray⟩ : ByteArray).toList = l := by rw [ByteArray.toList_eq]

theorem ba_append (a b : List UInt8) : (⟨a.toArray⟩ : ByteArray) ++ ⟨b.toArray⟩ = ⟨(a ++ b).toArray⟩ := by
  apply ByteArray.ext
  simp [ByteArray.data_append]

theorem binS_ok {op : BinOp} {a b : List UInt8} {K : D → Prop} (h : binS op a b K) : ∃ z v, K z ∧ (∀ F, DR F z v) ∧ ∀ (t : TypeId) w, (binOp op t (.string ⟨a.toArray⟩) (.string ⟨b.toArray⟩)).run P w = .ok v w := by
  have hsz : ∀ l : List UInt8, (⟨l.toArray⟩ : ByteArray).size = l.length := fun l => by simp [ByteArray.size]
  cases op <;> simp only [binS] at h
  case add =>
    refine ⟨_, _, h.2, fun F => .st _, fun t w => ?_⟩
    have hmax : IntKind.i64.max = 9223372036854775807 := by decide
    have : ¬ (((a.length + b.length : Nat) : Int) > IntKind.i64.max) := by rw [hmax]; omega
    simp only [binOp, Op.stringOp, hsz, if_neg this, ba_append]; rfl
  case eql => exact ⟨_, _, h, fun F => .bl _, fun t w => by simp [binOp, Op.stringOp, ba_toList]⟩
  case neq => exact ⟨_, _, h, fun F => .bl _, fun t w => by simp [binOp, Op.stringOp, ba_toList]⟩
  case lss => exact ⟨_, _, h, fun F => .bl _, fun t w => by simp [binOp, Op.stringOp, ba_toList]⟩
  case leq => exact ⟨_, _, h, fun F => .bl _, fun t w => by simp [binOp, Op.stringOp, ba_toList]⟩
  case gtr => exact ⟨_, _, h, fun F => .bl _, fun t w => by simp [binOp, Op.stringOp, ba_toList]⟩
  case geq => exact ⟨_, _, h, fun F => .bl _, fun t w => by simp [binOp, Op.stringOp, ba_toList]⟩

theorem guard_scalar (op : BinOp) (t : TypeId) (x y : Operand) (u v : Value) (h : (∃ k n, u = .int k n) ∨ (∃ s, u = .string s) ∨ (∃ b, u = .bool b)) (w : World) : (eqGuard op t x y u v).run P w = .ok () w := by
  rcases h with ⟨k, n, rfl⟩ | ⟨s, rfl⟩ | ⟨b, rfl⟩ <;> cases op <;> simp [eqGuard]

end
end Go.Sy

/- '==' on structs and arrays of scalars is 'all cells are the same'. Conditions: none. -/
namespace Go.Sy
set_option linter.unusedVariables false
set_option linter.unusedSimpArgs false

def likeV : D → Value → Bool
  | .bl _, .bool _ => true
  | .it k _, .int l _ => decide (k = l)
  | .st _, .string _ => true
  | _, _ => false

def eqV : Value → Value → Bool
  | .bool a, .bool b => a == b
  | .int _ a, .int _ b => a == b
  | .string a, .string b => a.toList == b.toList
  | _, _ => false

/-- Cells o, o + 1, .. of two arrays are of these kinds, one by one. -/
def likeA : List D → Array Value → Nat → Bool
  | [], _, _ => true
  | z :: r, xs, o => likeV z (xs.getD o undef) && likeA r xs (o + 1)

def eqA : Nat → Array Value → Array Value → Nat → Bool
  | 0, _, _, _ => true
  | n + 1, xs, ys, o => eqV (xs.getD o undef) (ys.getD o undef) && eqA n xs ys (o + 1)

def vOf (agg : Bool) (xs : Array Value) : Value := if agg then .agg xs else xs.getD 0 undef

theorem likeA_append : ∀ (a b : List D) (xs : Array Value) (o : Nat), likeA (a ++ b) xs o = (likeA a xs o && likeA b xs (o + a.length))
  | [], b, xs, o => by simp [likeA]
  | z :: r, b, xs, o => by
    simp only [List.cons_append, likeA, likeA_append r b xs (o + 1), List.length_cons, Bool.and_assoc]
    congr 3; omega

theorem eqA_append : ∀ (a b : Nat) (xs ys : Array Value) (o : Nat), eqA (a + b) xs ys o = (eqA a xs ys o && eqA b xs ys (o + a))
  | 0, b, xs, ys, o => by simp [eqA]
  | a + 1, b, xs, ys, o => by
    rw [Nat.add_right_comm]
    simp only [eqA, eqA_append a b xs ys (o + 1), Bool.and_assoc]
    congr 3; omega

theorem extract_getD (xs : Array Value) (o n j : Nat) (hj : j < n) (h : o + n ≤ xs.size) : (xs.extract o (o + n)).getD j undef = xs.getD (o + j) undef := by
  have h1 : j < (xs.extract o (o + n)).size := by rw [Array.size_extract]; omega
  have h2 : o + j < xs.size := by omega
  rw [Array.getD, dif_pos h1, Array.getD, dif_pos h2]
  simp

theorem likeA_extract : ∀ (z : List D) (xs : Array Value) (o n j : Nat), o + n ≤ xs.size → j + z.length ≤ n → likeA z (xs.extract o (o + n)) j = likeA z xs (o + j)
  | [], _, _, _, _, _, _ => rfl
  | d :: r, xs, o, n, j, h, hj => by
    simp only [List.length_cons] at hj
    simp only [likeA]
    rw [extract_getD xs o n j (by omega) h, likeA_extract r xs o n (j + 1) h (by omega)]; rfl

theorem eqA_extract : ∀ (m : Nat) (xs ys : Array Value) (o n j : Nat), o + n ≤ xs.size → o + n ≤ ys.size → j + m ≤ n → eqA m (xs.extract o (o + n)) (ys.extract o (o + n)) j = eqA m xs ys (o + j)
  | 0, _, _, _, _, _, _, _, _ => rfl
  | m + 1, xs, ys, o, n, j, h, h', hj => by
    simp only [eqA]
    rw [extract_getD xs o n j (by omega) h, extract_getD ys o n j (by omega) h', eqA_extract m xs ys o n (j + 1) h h' (by omega)]; rfl

section
variable {P : Program}

theorem run_part' {t : Nat} {u : TypeDesc} {i : TypeInfo} (hu : P.underlying t = some u) (hi : P.info? t = some i) (xs : Array Value) (o : Nat) (h : o + i.size ≤ xs.size) (h1 : (kdOf u).agg = false → i.size = 1) (w : World) :
    (part t xs o).run P w = .ok (vOf (kdOf u).agg (xs.extract o (o + i.size))) w := by
  simp only [part, Sem.run_bind, run_isAgg' hu, Result.andThen_ok]
  cases ha : (kdOf u).agg with
  | true => simp only [if_true, Sem.run_bind, run_sizeOf' hi, Result.andThen_ok, Sem.run_pure, vOf]
  | false =>
    simp only [Bool.false_eq_true, if_false, vOf]
    have h2 := h1 ha
    have h3 : o < xs.size := by omega
    rw [extract_getD xs o i.size 0 (by omega) h]
    simp [h3, Array.getD]

/-- What is shown of a type whose cells are z. -/
def EqOK (P : Program) (t : Nat) (z : List D) (n : Nat) : Prop :=
  ∃ u i, P.underlying t = some u ∧ P.info? t = some i ∧ i.size = z.length ∧ ((kdOf u).agg = false → z.length = 1) ∧
    ∀ d, n ≤ d → ∀ xs ys : Array Value, xs.size = z.length → ys.size = z.length → likeA z xs 0 = true → likeA z ys 0 = true → ∀ w, (Op.equalIn d t (vOf (kdOf u).agg xs) (vOf (kdOf u).agg ys)).run P w = .ok (eqA z.length xs ys 0) w

theorem run_eqFields {K : Nat → Option (List D)} {n : Nat} (hK : ∀ t z, K t = some z → EqOK P t z n) {d : Nat} (hd : n ≤ d) (xs ys : Array Value) (hxy : xs.size = ys.size) : ∀ (fs : List Field) (o : Nat) (z : List D), flatKs K fs o = some z → o + z.length ≤ xs.size →
    likeA z xs o = true → likeA z ys o = true → ∀ w, (Op.eqFields d xs ys fs).run P w = .ok (eqA z.length xs ys o) w
  | [], o, z, h, hz, l1, l2, w => by
    obtain rfl := Option.some.inj h
    rfl
  | f :: r, o, z, h, hz, l1, l2, w => by
    simp only [flatKs] at h
    cases hc : (f.offset == o && f.name != "_") with
    | false => rw [hc] at h; cases h
    | true =>
      rw [hc] at h
      simp only [cond_true] at h
      simp only [Bool.and_eq_true, beq_iff_eq, bne_iff_ne] at hc
      split at h
      case h_2 => cases h
      rename_i q l hl
      split at h
      case h_2 => cases h
      rename_i l' hl'
      obtain rfl := Option.some.inj h
      simp only [List.length_append] at hz ⊢
      rw [likeA_append, Bool.and_eq_true] at l1 l2
      obtain ⟨u, i, e1, e2, e3, e4, e5⟩ := hK _ _ hl
      have ih := run_eqFields hK hd xs ys hxy r (o + l.length) l' hl' (by omega) l1.2 l2.2 w
      have p1 := run_part' e1 e2 xs f.offset (by rw [hc.1, e3]; omega) (fun h => by rw [e3]; exact e4 h) w
      have p2 := run_part' e1 e2 ys f.offset (by rw [hc.1, e3, ← hxy]; omega) (fun h => by rw [e3]; exact e4 h) w
      have q := e5 d hd (xs.extract f.offset (f.offset + i.size)) (ys.extract f.offset (f.offset + i.size)) (by simp [hc.1, e3]; omega) (by simp [hc.1, e3, ← hxy]; omega)
        (by rw [likeA_extract _ _ _ _ _ (by rw [hc.1, e3]; omega) (by omega), hc.1]; exact l1.1) (by rw [likeA_extract _ _ _ _ _ (by rw [hc.1, e3, ← hxy]; omega) (by omega), hc.1]; exact l2.1) w
      rw [eqA_extract _ _ _ _ _ _ (by rw [hc.1, e3]; omega) (by rw [hc.1, e3, ← hxy]; omega) (by omega), hc.1] at q
      rw [hc.1] at p1 p2
      simp only [Op.eqFields, if_pos hc.2, Sem.run_bind, hc.1, p1, p2, Result.andThen_ok, q, Sem.run_ite, eqA_append, Nat.add_zero]
      cases eqA l.length xs ys o with
      | true => simp [ih]
      | false => simp

theorem run_eqLoop {n : Nat} {e : Nat} {z : List D} (hK : EqOK P e z n) {d : Nat} (hd : n ≤ d) (xs ys : Array Value) (hxy : xs.size = ys.size) {i : TypeInfo} (hi : P.info? e = some i) : ∀ (len k : Nat), k * z.length + len * z.length ≤ xs.size →
    (∀ j, j < len → likeA z xs ((k + j) * z.length) = true) → (∀ j, j < len → likeA z ys ((k + j) * z.length) = true) → ∀ w,
    (forIn (List.range' k len) ((none, ()) : Option Bool × Unit) (fun i r => do
      let a ← part e xs (i * z.length)
      let b ← part e ys (i * z.length)
      let q ← Op.equalIn d e a b
      if (!q) = true then pure (ForInStep.done (some false, ())) else pure (ForInStep.yield (none, ()))) : Sem (Option Bool × Unit)).run P w = .ok (if eqA (len * z.length) xs ys (k * z.length) then (none, ()) else (some false, ())) w
  | 0, k, _, _, _, w => by simp [eqA]
  | len + 1, k, hz, l1, l2, w => by
    obtain ⟨u, i', e1, e2, e3, e4, e5⟩ := hK
    rw [hi] at e2; obtain rfl := Option.some.inj e2
    rw [Nat.add_mul, Nat.one_mul] at hz
    have ih := run_eqLoop ⟨u, i, e1, hi, e3, e4, e5⟩ hd xs ys hxy hi len (k + 1) (by rw [Nat.add_mul, Nat.one_mul]; omega) (fun j hj => by rw [Nat.add_assoc, Nat.add_comm 1 j]; exact l1 (j + 1) (by omega)) (fun j hj => by rw [Nat.add_assoc, Nat.add_comm 1 j]; exact l2 (j + 1) (by omega)) w
    have p1 := run_part' e1 hi xs (k * z.length) (by rw [e3]; omega) (fun h => by rw [e3]; exact e4 h) w
    have p2 := run_part' e1 hi ys (k * z.length) (by rw [e3, ← hxy]; omega) (fun h => by rw [e3]; exact e4 h) w
    have q := e5 d hd (xs.extract (k * z.length) (k * z.length + i.size)) (ys.extract (k * z.length) (k * z.length + i.size)) (by simp [e3]; omega) (by simp [e3, ← hxy]; omega)
        (by rw [likeA_extract _ _ _ _ _ (by rw [e3]; omega) (by omega)]; simpa using l1 0 (by omega)) (by rw [likeA_extract _ _ _ _ _ (by rw [e3, ← hxy]; omega) (by omega)]; simpa using l2 0 (by omega)) w
    rw [eqA_extract _ _ _ _ _ _ (by rw [e3]; omega) (by rw [e3, ← hxy]; omega) (by omega)] at q
    have hs : (len + 1) * z.length = z.length + len * z.length := by rw [Nat.add_mul, Nat.one_mul, Nat.add_comm]
    simp only [List.range'_succ, List.forIn_cons, Sem.run_bind, p1, p2, Result.andThen_ok, q, Sem.run_ite, hs, eqA_append, Nat.add_zero]
    cases eqA z.length xs ys (k * z.length) with
    | true =>
      simp only [Bool.not_true, Bool.false_eq_true, if_false, Sem.run_bind, Sem.run_pure, Result.andThen_ok, ih, Bool.true_and]
      rw [show (k + 1) * z.length = k * z.length + z.length by rw [Nat.add_mul, Nat.one_mul]]
    | false => simp

theorem likeA_reps : ∀ (len : Nat) (l : List D) (xs : Array Value) (o : Nat), likeA (reps len l) xs o = true → ∀ j, j < len → likeA l xs (o + j * l.length) = true
  | 0, _, _, _, _, j, hj => by omega
  | len + 1, l, xs, o, h, j, hj => by
    simp only [reps, likeA_append, Bool.and_eq_true] at h
    cases j with
    | zero => simpa using h.1
    | succ j =>
      have := likeA_reps len l xs (o + l.length) h.2 j (by omega)
      rw [show o + (j + 1) * l.length = o + l.length + j * l.length by rw [Nat.add_mul]; omega]
      exact this

theorem reps_length (n : Nat) (l : List D) : (reps n l).length = n * l.length := by
  induction n with
  | zero => simp [reps]
  | succ n ih => simp [reps, ih, Nat.add_mul]; omega

theorem flatK_ok : ∀ (n : Nat) (t : Nat) (z : List D), flatK P n t = some z → EqOK P t z n
  | 0, t, z, h => by cases h
  | n + 1, t, z, h => by
    simp only [flatK] at h
    split at h
    case h_2 => cases h
    rename_i l i hl hi
    cases hs : (i.size == l.length) with
    | false => rw [hs] at h; cases h
    | true =>
      rw [hs] at h
      obtain rfl := Option.some.inj h
      have hs' : i.size = l.length := by simpa using hs
      split at hl
      · rename_i hu
        obtain rfl := Option.some.inj hl
        refine ⟨_, i, hu, hi, hs', fun _ => rfl, fun d hd xs ys h1 h2 l1 l2 w => ?_⟩
        obtain ⟨d, rfl⟩ : ∃ e, d = e + 1 := ⟨d - 1, by omega⟩
        simp only [likeA, Bool.and_true, kdOf, Kd.agg, vOf, Bool.false_eq_true, if_false, eqA, List.length_cons, List.length_nil] at *
        generalize xs.getD 0 undef = a at *
        generalize ys.getD 0 undef = b at *
        cases a <;> simp only [likeV] at l1 <;> first | (cases l1; done) | skip
        cases b <;> simp only [likeV] at l2 <;> first | (cases l2; done) | skip
        exact run_equalIn_bool' w d t _ _ hu
      · rename_i k hu
        obtain rfl := Option.some.inj hl
        refine ⟨_, i, hu, hi, hs', fun _ => rfl, fun d hd xs ys h1 h2 l1 l2 w => ?_⟩
        obtain ⟨d, rfl⟩ : ∃ e, d = e + 1 := ⟨d - 1, by omega⟩
        simp only [likeA, Bool.and_true, kdOf, Kd.agg, vOf, Bool.false_eq_true, if_false, eqA, List.length_cons, List.length_nil] at *
        generalize xs.getD 0 undef = a at *
        generalize ys.getD 0 undef = b at *
        cases a <;> simp only [likeV] at l1 <;> first | (cases l1; done) | skip
        cases b <;> simp only [likeV] at l2 <;> first | (cases l2; done) | skip
        obtain rfl := of_decide_eq_true l1
        obtain rfl := of_decide_eq_true l2
        exact run_equalIn_int w d t _ _ _ _ hu
      · rename_i hu
        obtain rfl := Option.some.inj hl
        refine ⟨_, i, hu, hi, hs', fun _ => rfl, fun d hd xs ys h1 h2 l1 l2 w => ?_⟩
        obtain ⟨d, rfl⟩ : ∃ e, d = e + 1 := ⟨d - 1, by omega⟩
        simp only [likeA, Bool.and_true, kdOf, Kd.agg, vOf, Bool.false_eq_true, if_false, eqA, List.length_cons, List.length_nil] at *
        generalize xs.getD 0 undef = a at *
        generalize ys.getD 0 undef = b at *
        cases a <;> simp only [likeV] at l1 <;> first | (cases l1; done) | skip
        cases b <;> simp only [likeV] at l2 <;> first | (cases l2; done) | skip
        exact run_equalIn_string w d t _ _ hu
      · rename_i fs hu
        cases hp : P.stoodInHeld t with
        | true => rw [hp] at hl; cases hl
        | false =>
          rw [hp] at hl
          simp only [cond_false] at hl
          have hf : P.fieldsOf t = fs := by simp [Program.fieldsOf, hu]
          refine ⟨_, i, hu, hi, hs', (fun h => by cases h), fun d hd xs ys h1 h2 l1 l2 w => ?_⟩
          obtain ⟨d, rfl⟩ : ∃ e, d = e + 1 := ⟨d - 1, by omega⟩
          simp only [kdOf, Kd.agg, vOf, if_true]
          rw [run_equalIn_struct w d t xs ys (by rw [hf]; exact hu) hp, hf]
          exact run_eqFields (fun t z h => flatK_ok n t z h) (by omega) xs ys (by omega) fs.toList 0 l hl (by omega) l1 l2 w
      · rename_i len e hu
        split at hl
        case h_2 => cases hl
        rename_i z hz
        obtain rfl := Option.some.inj hl
        have hE := flatK_ok n e z hz
        obtain ⟨u, j, e1, e2, e3, e4, e5⟩ := hE
        refine ⟨_, i, hu, hi, hs', (fun h => by cases h), fun d hd xs ys h1 h2 l1 l2 w => ?_⟩
        obtain ⟨d, rfl⟩ : ∃ e, d = e + 1 := ⟨d - 1, by omega⟩
        rw [reps_length] at h1 h2
        have lp := run_eqLoop (P := P) ⟨u, j, e1, e2, e3, e4, e5⟩ (d := d) (by omega) xs ys (by omega) e2 len 0 (by omega) (fun q hq => by simpa using likeA_reps len z xs 0 l1 q hq) (fun q hq => by simpa using likeA_reps len z ys 0 l2 q hq) w
        simp only [kdOf, Kd.agg, vOf, if_true, Op.equalIn, Sem.run_bind, run_underlying hu, Result.andThen_ok, run_sizeOf' e2, e3]
        rw [Std.Legacy.Range.forIn_eq_forIn_range']
        have hsz : (List.range' [:len].start [:len].size [:len].step) = List.range' 0 len := by simp [Std.Legacy.Range.size]
        rw [hsz, lp]
        simp only [Result.andThen_ok, Nat.zero_mul, reps_length]
        cases eqA (len * z.length) xs ys 0 <;> rfl
      · cases hl
end
end Go.Sy

/- evVal is sound: operators, conversions, literals, builtins, calls; and all together. Conditions: none. -/
namespace Go.Sy
set_option linter.unusedVariables false
set_option linter.unusedSimpArgs false

theorem eqA_of {F : Nat → Nat → Option Value} {xs ys : Array Value} : ∀ {z cs ds : List D} {o : Nat}, likes z cs = true → likes z ds = true →
    (∀ j (h : j < cs.length), DR F cs[j] (xs.getD (o + j) undef)) → (∀ j (h : j < ds.length), DR F ds[j] (ys.getD (o + j) undef)) →
    likeA z xs o = true ∧ likeA z ys o = true ∧ eqA z.length xs ys o = eqDs cs ds ∧ cs.length = z.length ∧ ds.length = z.length
  | [], cs, ds, o, h1, h2, _, _ => by
    cases cs <;> simp only [likes] at h1
    · cases ds <;> simp only [likes] at h2
      · exact ⟨rfl, rfl, rfl, rfl, rfl⟩
      · cases h2
    · cases h1
  | a :: z, [], ds, o, h1, h2, _, _ => by cases h1
  | a :: z, c :: cs, [], o, h1, h2, _, _ => by cases h2
  | a :: z, c :: cs, d :: ds, o, h1, h2, hc, hd => by
    simp only [likes, Bool.and_eq_true] at h1 h2
    have ih := eqA_of (z := z) (cs := cs) (ds := ds) (o := o + 1) (F := F) (xs := xs) (ys := ys) h1.2 h2.2 (fun j hj => by rw [show o + 1 + j = o + (j + 1) by omega]; exact hc (j + 1) (by simpa using hj)) (fun j hj => by rw [show o + 1 + j = o + (j + 1) by omega]; exact hd (j + 1) (by simpa using hj))
    obtain ⟨i1, i2, i3, i4, i5⟩ := ih
    have r1 := hc 0 (by simp)
    have r2 := hd 0 (by simp)
    simp only [List.getElem_cons_zero, Nat.add_zero] at r1 r2
    simp only [likeA, eqA, eqDs, List.length_cons, i1, i2, i3, i4, i5, Bool.and_true]
    generalize xs.getD o undef = u at r1
    generalize ys.getD o undef = v at r2
    have l1 := h1.1
    have l2 := h2.1
    cases a <;> cases c <;> simp only [likeD] at l1 <;> first | (cases l1; done) | skip
    all_goals cases d <;> simp only [likeD] at l2 <;> first | (cases l2; done) | skip
    all_goals cases r1; cases r2
    · exact ⟨rfl, rfl, rfl, trivial, trivial⟩
    · exact ⟨l1, l2, rfl, trivial, trivial⟩
    · exact ⟨rfl, rfl, by simp only [eqV, eqD, ba_toList], trivial, trivial⟩

section
variable {P : Program} {ti : Nat → Option Ty} {mem : List (Nat × Ob)} {nx : Nat} {r : Operand → Option AV} {o : Oper} {K : AV → Prop}

theorem does_binOp {op : BinOp} {t t' : Nat} {x y : Operand} {u v : AV} {K : D → Prop} (hti : TiOK P ti) (hop : o.op = .binOp op t x y t') (hx : r x = some u) (hy : r y = some v) (h : binK ti op t u v K) : ∃ z, K z ∧ Does P mem nx r o (.d z) := by
  have mx : x ∈ o.op.operands.toList := by simp [hop, Op.operands]
  have my : y ∈ o.op.operands.toList := by simp [hop, Op.operands]
  unfold binK at h
  split at h
  · rename_i k a l b
    have key : ∀ z w, K z → (∀ F, DR F z w) → (∀ W, (binOp op t (.int k a) (.int l b)).run P W = .ok w W) → ∃ z, K z ∧ Does P mem nx r o (.d z) := fun z w hK hD hr =>
      ⟨z, hK, .of_run rfl fun κ g A W hi ho => ⟨w, by
        have h1 := evalInt (ho x mx _ hx)
        have h2 := evalInt (ho y my _ hy)
        simp only [execOp, hop, h1, h2, Sem.run_bind, guard_scalar op t x y _ _ (.inl ⟨_, _, rfl⟩), Result.andThen_ok, hr, Sem.run_pure], .d _ _ (hD _)⟩⟩
    split at h
    · obtain ⟨z, w, hK, hD, hr⟩ := binI_ok h; exact key z w hK hD fun W => hr t l (.inr (.inl rfl)) W
    · obtain ⟨z, w, hK, hD, hr⟩ := binI_ok h; exact key z w hK hD fun W => hr t l (.inr (.inr rfl)) W
    · cases hkl : decide (k = l) with
      | false => rw [hkl] at h; exact h.elim
      | true =>
        rw [hkl] at h
        obtain ⟨z, w, hK, hD, hr⟩ := binI_ok h; exact key z w hK hD fun W => hr t l (.inl (of_decide_eq_true hkl).symm) W
  · rename_i a b
    obtain ⟨z, w, hK, hD, hr⟩ := binS_ok (P := P) h
    exact ⟨z, hK, .of_run rfl fun κ g A W hi ho => ⟨w, by
      have h1 := evalStr (ho x mx _ hx)
      have h2 := evalStr (ho y my _ hy)
      simp only [execOp, hop, h1, h2, Sem.run_bind, guard_scalar op t x y _ _ (.inr (.inl ⟨_, rfl⟩)), Result.andThen_ok, hr t W, Sem.run_pure], .d _ _ (hD _)⟩⟩
  · rename_i a b
    split at h
    · rename_i hty
      obtain ⟨tu, i, ht⟩ := tyOf_ok (hti _ _ hty)
      obtain rfl := bool_of ht rfl
      exact ⟨_, h, .of_run rfl fun κ g A W hi ho => ⟨.bool (a == b), by
        have h1 := evalBool (ho x mx _ hx)
        have h2 := evalBool (ho y my _ hy)
        simp only [execOp, hop, h1, h2, Sem.run_bind, guard_scalar _ t x y _ _ (.inr (.inr ⟨_, rfl⟩)), Result.andThen_ok, binOp, Op.equal, Op.maxDepth, run_equalIn_bool' W 9999 t a b ht.und, Sem.run_pure], .d _ _ (.bl _)⟩⟩
    · rename_i hty
      obtain ⟨tu, i, ht⟩ := tyOf_ok (hti _ _ hty)
      obtain rfl := bool_of ht rfl
      exact ⟨_, h, .of_run rfl fun κ g A W hi ho => ⟨.bool (!(a == b)), by
        have h1 := evalBool (ho x mx _ hx)
        have h2 := evalBool (ho y my _ hy)
        simp only [execOp, hop, h1, h2, Sem.run_bind, guard_scalar _ t x y _ _ (.inr (.inr ⟨_, rfl⟩)), Result.andThen_ok, binOp, Op.equal, Op.maxDepth, run_equalIn_bool' W 9999 t a b ht.und, Sem.run_pure], .d _ _ (.bl _)⟩⟩
    · exact h.elim
  · rename_i k1 cs k2 ds
    split at h
    case h_2 => exact h.elim
    rename_i ty hty
    obtain ⟨tu, i, ht⟩ := tyOf_ok (hti _ _ hty)
    split at h
    case h_2 => exact h.elim
    rename_i z hz
    cases hl : (ty.kd.agg && (likes z cs && likes z ds)) with
    | false => rw [hl] at h; exact h.elim
    | true =>
      rw [hl] at h
      simp only [cond_true, Bool.and_eq_true] at h hl
      have hcmp := ht.cmp
      rw [hz] at hcmp
      cases hg : P.eqGuardType P.depth t with
      | true => rw [hg] at hcmp; cases hcmp
      | false =>
        rw [hg] at hcmp
        obtain ⟨u', i', e1, e2, e3, e4, e5⟩ := flatK_ok 6 t z hcmp.symm
        have run : ∀ (κ : Ctx) (g : Gh) (A : Act) (W : World), Inv κ g mem W → (∀ x ∈ o.op.operands.toList, ∀ v, r x = some v → AVR g v (A.eval x)) → ∃ xs ys, A.eval x = .agg xs ∧ A.eval y = .agg ys ∧ (Op.equalIn 10000 t (.agg xs) (.agg ys)).run P W = .ok (eqDs cs ds) W := by
          intro κ g A W hi ho
          have h1 := ho x mx _ hx
          have h2 := ho y my _ hy
          generalize A.eval x = p at h1
          generalize A.eval y = q at h2
          cases h1 with | dg _ _ xs a1 a2 a3 => ?_
          cases h2 with | dg _ _ ys b1 b2 b3 => ?_
          refine ⟨xs, ys, rfl, rfl, ?_⟩
          obtain ⟨j1, j2, j3, j4, j5⟩ := eqA_of (F := g.F) (xs := xs) (ys := ys) (o := 0) hl.2.1 hl.2.2 (by simpa using a3) (by simpa using b3)
          have hagg : (kdOf u').agg = true := by
            have : some u' = some tu := e1.symm.trans ht.und
            rw [Option.some.inj this, ht.kd]; exact hl.1
          have := e5 10000 (by omega) xs ys (by omega) (by omega) j1 j2 W
          rw [hagg, j3] at this
          exact this
        split at h
        · exact ⟨_, h, .of_run rfl fun κ g A W hi ho => by
            obtain ⟨xs, ys, q1, q2, q3⟩ := run κ g A W hi ho
            exact ⟨.bool (eqDs cs ds), by simp only [execOp, hop, q1, q2, Sem.run_bind, run_eqGuard_agg W .eql t x y xs ys hg, Result.andThen_ok, run_eql_struct, q3, Sem.run_pure], .d _ _ (.bl _)⟩⟩
        · exact ⟨_, h, .of_run rfl fun κ g A W hi ho => by
            obtain ⟨xs, ys, q1, q2, q3⟩ := run κ g A W hi ho
            exact ⟨.bool (!eqDs cs ds), by simp only [execOp, hop, q1, q2, Sem.run_bind, run_eqGuard_agg W .neq t x y xs ys hg, Result.andThen_ok, run_neq_struct, q3, Sem.run_pure], .d _ _ (.bl _)⟩⟩
        · exact h.elim
  · exact h.elim

theorem does_not {t : Nat} {x : Operand} {b : Bool} (hop : o.op = .unOp .not t x) (hx : r x = some (.d (.bl b))) : Does P mem nx r o (.d (.bl !b)) :=
  .of_run rfl fun κ g A W hi ho => ⟨_, by
    have h1 := evalBool (ho x (by simp [hop, Op.operands]) _ hx)
    simp only [execOp, hop, h1, Op.unary, Sem.run_bind, Sem.run_pure, Result.andThen_ok], .d _ _ (.bl _)⟩

theorem does_neg {t : Nat} {x : Operand} {k : IntKind} {n : Int} (hop : o.op = .unOp .neg t x) (hx : r x = some (.d (.it k n))) : Does P mem nx r o (.d (.it k (k.wrap (0 - n)))) :=
  .of_run rfl fun κ g A W hi ho => ⟨_, by
    have h1 := evalInt (ho x (by simp [hop, Op.operands]) _ hx)
    simp only [execOp, hop, h1, Op.unary, Op.intArith, Sem.run_bind, Sem.run_pure, Result.andThen_ok], .d _ _ (.it _ _)⟩

theorem does_conv_int {s t : Nat} {x : Operand} {sty ty : Ty} {l k j : IntKind} {n : Int} (hti : TiOK P ti) (hop : o.op = .convert s t x) (hs : ti s = some sty) (hsk : sty.kd = .int l) (ht : ti t = some ty) (hk : ty.kd = .int k) (hx : r x = some (.d (.it j n))) : Does P mem nx r o (.d (.it k (k.wrap n))) := by
  obtain ⟨u, i, hs⟩ := tyOf_ok (hti _ _ hs)
  obtain ⟨u', i', ht⟩ := tyOf_ok (hti _ _ ht)
  obtain rfl := int_of hs hsk
  obtain rfl := int_of ht hk
  exact .of_run rfl fun κ g A W hi ho => ⟨_, by
    have h1 := evalInt (ho x (by simp [hop, Op.operands]) _ hx)
    simp only [execOp, hop, h1, convert, Conv.intToInt, Sem.run_bind, run_underlying hs.und, run_underlying ht.und, Sem.run_pure, Result.andThen_ok], .d _ _ (.it _ _)⟩

theorem does_conv_str {s t : Nat} {x : Operand} {sty ty : Ty} {l : List UInt8} (hti : TiOK P ti) (hop : o.op = .convert s t x) (hs : ti s = some sty) (hsk : sty.kd = .string) (ht : ti t = some ty) (hk : ty.kd = .string) (hx : r x = some (.d (.st l))) : Does P mem nx r o (.d (.st l)) := by
  obtain ⟨u, i, hs⟩ := tyOf_ok (hti _ _ hs)
  obtain ⟨u', i', ht⟩ := tyOf_ok (hti _ _ ht)
  obtain rfl := string_of hs hsk
  obtain rfl := string_of ht hk
  exact .of_run rfl fun κ g A W hi ho => ⟨_, by
    have h1 := evalStr (ho x (by simp [hop, Op.operands]) _ hx)
    simp only [execOp, hop, h1, convert, Sem.run_bind, run_underlying hs.und, run_underlying ht.und, Sem.run_pure, Result.andThen_ok], .d _ _ (.st _)⟩

theorem fold_bytes : ∀ (l : List UInt8) (acc : ByteArray), (l.map fun b => (b.toNat : Int)).foldl (fun r n => r.push (UInt8.ofNat n.toNat)) acc = acc ++ ⟨l.toArray⟩
  | [], acc => by
    simp only [List.map_nil, List.foldl_nil]
    apply ByteArray.ext; simp [ByteArray.data_append]
  | b :: l, acc => by
    simp only [List.map_cons, List.foldl_cons]
    rw [fold_bytes l]
    apply ByteArray.ext
    simp [ByteArray.data_append, ByteArray.data_push]

theorem does_conv_bytes {s t e : Nat} {x : Operand} {sty ty ety : Ty} {v : AV} {es : List (List D)} {l : List UInt8} (hti : TiOK P ti) (hop : o.op = .convert s t x) (hs : ti s = some sty) (hsk : sty.kd = .slice e) (ht : ti t = some ty) (hk : ty.kd = .string) (he : ti e = some ety) (hek : ety.kd = .int .u8)
    (hx : r x = some v) (hv : sliceOf v = some (1, es)) (hl : es = bytesD l) : Does P mem nx r o (.d (.st l)) := by
  obtain ⟨u, i, hs⟩ := tyOf_ok (hti _ _ hs)
  obtain ⟨u', i', ht⟩ := tyOf_ok (hti _ _ ht)
  obtain ⟨u'', i'', he⟩ := tyOf_ok (hti _ _ he)
  obtain rfl := slice_of hs hsk
  obtain rfl := string_of ht hk
  obtain rfl := int_of he hek
  refine .of_run rfl fun κ g A W hi ho => ?_
  have h1 := sliceOf_ok hv (ho x (by simp [hop, Op.operands]) _ hx)
  generalize ha : A.eval x = q at h1
  subst hl
  have main : ∃ ad len cap, q = .slice ad len cap ∧ (Conv.bytesToString (.slice ad len cap)).run P W = .ok (.string ⟨l.toArray⟩) W := by
    generalize hes : bytesD l = es at h1
    cases h1 with
    | fs0 _ ad cap =>
      have hl0 : l = [] := by cases l <;> simp [bytesD] at hes ⊢
      subst hl0
      refine ⟨ad, 0, cap, rfl, ?_⟩
      cases ad with
      | none => rfl
      | some ad =>
        rw [run_bytesToString W ad 0 cap [] (by simp [loadCells, loadCellsFrom])]
        rfl
    | fs _ _ b off len cap vs hl hcap hs' hF hd =>
      subst hes
      have hlen : l.length = len := by simpa [bytesD] using hl
      refine ⟨_, _, _, rfl, ?_⟩
      have hval : ∀ j (h : j < l.length), vs j 0 = .int .u8 l[j].toNat := fun j hj => by
        have hj' : j < (bytesD l).length := by simpa [bytesD] using hj
        have hr := hd j hj' 0 (by simp [bytesD])
        simp only [bytesD, List.getElem_map, List.getElem_cons_zero] at hr
        generalize vs j 0 = z at hr
        cases hr; rfl
      have hld : (loadCells ⟨b, off, none⟩ len).run P W = .ok ((l.map fun b => (b.toNat : Int)).map (Value.int .u8)).toArray W := by
        have := run_loadCells_list (P := P) (w := W) ⟨b, off, none⟩ ((l.map fun b => (b.toNat : Int)).map (Value.int .u8)) (fun j v hj => by
          rw [addr_add]
          have hjl : j < l.length := by
            rcases Nat.lt_or_ge j l.length with h | h
            · exact h
            · simp [List.getElem?_eq_none h] at hj
          have hv' : v = .int .u8 l[j].toNat := by simpa [hjl] using hj.symm
          have := hi.frz _ _ _ (hF j 0 (by omega) (by omega))
          rw [hval j hjl] at this
          rw [hv', ← this]; simp)
        simpa [hlen] using this
      rw [run_bytesToString W _ len cap _ hld, fold_bytes]
      congr 2
  obtain ⟨ad, len, cap, rfl, hrun⟩ := main
  exact ⟨_, by simp only [execOp, hop, ha, Sem.run_bind, run_convert_bytes_string W s t e ad len cap hs.und he.und ht.und, hrun, Result.andThen_ok, Sem.run_pure], .d _ _ (.st _)⟩

theorem does_conv_to_bytes {s t e : Nat} {x : Operand} {sty ty ety : Ty} {l : List UInt8} (hti : TiOK P ti) (hop : o.op = .convert s t x) (hs : ti s = some sty) (hsk : sty.kd = .string) (ht : ti t = some ty) (hk : ty.kd = .slice e) (he : ti e = some ety) (hek : ety.kd = .int .u8)
    (hx : r x = some (.d (.st l))) (hmem : ∀ n ob, look n mem = some ob → n < nx ∧ ob.lt nx = true) : Does P mem nx r o (.d (.fs 1 (bytesD l))) := by
  obtain ⟨u, i, hs⟩ := tyOf_ok (hti _ _ hs)
  obtain ⟨u', i', ht⟩ := tyOf_ok (hti _ _ ht)
  obtain ⟨u'', i'', he⟩ := tyOf_ok (hti _ _ he)
  obtain rfl := string_of hs hsk
  obtain rfl := slice_of ht hk
  obtain rfl := int_of he hek
  refine ⟨rfl, fun κ g a w hi ho next Q hn => ?_⟩
  have h1 := evalStr (ho x (by simp [hop, Op.operands]) _ hx)
  have hrun := run_bytes_of_string (P := P) w s t e ⟨l.toArray⟩ hs.und ht.und he.und
  have hsz : (⟨l.toArray⟩ : ByteArray).size = l.length := by simp [ByteArray.size]
  generalize hcap : grownCap w (⟨l.toArray⟩ : ByteArray).size 0 e = cap at hrun
  have hle : l.length ≤ cap := by
    rw [← hcap, ← hsz]
    exact Nat.le_add_right _ _
  have hrow : ∀ j (h : j < l.length), (bytesRow ⟨l.toArray⟩ cap).getD j undef = .int .u8 l[j].toNat := fun j hj => by
    have : j < (bytesRow ⟨l.toArray⟩ cap).size := by simp [bytesRow]; omega
    rw [Array.getD, dif_pos this]
    simp [bytesRow, Array.getElem_append, hj]
  obtain ⟨g', he', hi', hF⟩ := hi.newFrozen (w' := w.drew.alloc (.cells (bytesRow ⟨l.toArray⟩ cap) e ((bytesRow ⟨l.toArray⟩ cap).size, (bytesRow ⟨l.toArray⟩ cap).size + 1))) hmem rfl rfl rfl rfl l.length (by simp [bytesRow])
  have hr2 : (execOp a.eval o).run P w = .ok (.value (.slice (some ⟨w.heap.size, 0, none⟩) (⟨l.toArray⟩ : ByteArray).size cap)) (w.drew.alloc (.cells (bytesRow ⟨l.toArray⟩ cap) e ((bytesRow ⟨l.toArray⟩ cap).size, (bytesRow ⟨l.toArray⟩ cap).size + 1))) := by
    simp only [execOp, hop, h1, Sem.run_bind, hrun, Result.andThen_ok, Sem.run_pure]
  refine wp_value hr2 (hn g' _ _ he' hi' (.d _ _ ?_))
  rw [hsz]
  refine .fs _ _ _ _ _ _ (fun i _ => .int .u8 (l.getD i 0).toNat) (by simp [bytesD]) hle (fun j hj => by simp [bytesD]) (fun i j hi hj => ?_) fun i hi j hj => ?_
  · rw [show 0 + i * 1 + j = i by omega, hF i hi, hrow i hi]
    simp [List.getD, hi]
  · have hi' : i < l.length := by simpa [bytesD] using hi
    simp only [bytesD, List.getElem_map, List.length_cons, List.length_nil] at hj ⊢
    obtain rfl : j = 0 := by omega
    simp only [List.getElem_cons_zero, List.getD, List.getElem?_eq_getElem hi', Option.getD_some]
    exact .it _ _

theorem does_extract {x : Operand} {i : Nat} {vs : List AV} {v : AV} (hop : o.op = .extract x i) (hx : r x = some (.tup vs)) (hl : (AV.tup vs).lt nx = true) (hv : vs[i]? = some v) : Does P mem nx r o v := by
  have hlt : i < vs.length := by
    rcases Nat.lt_or_ge i vs.length with h | h
    · exact h
    · rw [List.getElem?_eq_none h] at hv; cases hv
  have hv' : vs[i] = v := by rw [List.getElem?_eq_getElem hlt] at hv; exact Option.some.inj hv
  refine .of_run ?_ fun κ g A W hi ho => ?_
  · simp only [AV.lt, List.all_eq_true] at hl
    have := hl v (by rw [← hv']; exact List.getElem_mem _)
    cases v <;> first | exact this | cases this
  · have h1 := ho x (by simp [hop, Op.operands]) _ hx
    generalize ha : A.eval x = q at h1
    cases h1 with | tup _ us e1 e2 => ?_
    refine ⟨us.getD i undef, ?_, by rw [← hv']; exact e2 i hlt⟩
    have : us[i]? = some (us.getD i undef) := by simp [Array.getD, show i < us.size by omega]
    simp only [execOp, hop, ha, Instr.extract, this, Sem.run_bind, Sem.run_pure, Result.andThen_ok]
end
end Go.Sy
