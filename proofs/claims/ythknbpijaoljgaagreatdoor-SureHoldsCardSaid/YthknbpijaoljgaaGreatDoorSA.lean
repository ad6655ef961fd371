/- A computing verification layer for data, proved sound over the library: what a body comes to, by its literal code. Conditions: none. -/
import Derived.WalkKit
import Derived.Laws.CopyRow
import Derived.RangeFuncLeaves
import Derived.RangeFuncRecord
import Derived.OrdersIn
import Derived.LoopNIn
import Derived.Laws.IdiomStrings
import Derived.Laws.StructEq
import Derived.Lib.Builder
import Derived.Lib.UnsafeStr
set_option maxRecDepth 100000
set_option linter.all false
namespace Go.Sy
inductive D where
 | bl (b : Bool)
 | it (k : IntKind) (n : Int)
 | st (l : List UInt8)
 | ot (v : Value)
 | fs (sz : Nat) (es : List (List D))
 | fp (k : Nat) (cs : List D)
 | an
inductive AV where
 | d (x : D)
 | dg (k : Nat) (cs : List D)
 | ag (k : Nat) (cs : List AV)
 | tup (vs : List AV)
 | ptr (n off : Nat)
 | ms (sz n off len cap : Nat)
 | ts (sz : Nat) (es : List (List D)) (n : Nat)
 | tg (sz : Nat) (es : List (List D))
 | nl (sz : Nat)
 | sd (es : List (List D)) (n : Nat)
 | fn (f : Fn) (first cap : List AV)
 | yld (n : Nat)
 | vx (sz n i len : Nat)
 | vq (sz n k off : Nat)
 | mp (n : Nat)
 | jk
 | junk
inductive Ob where
 | cells (size : Nat) (c : List AV)
 | tail (t : Nat) (b : Bool)
 | vec (t sz : Nat) (es : List (List D)) (f : Bool)
 | tag (m t : Nat)
 | frame (sz : Nat) (l : List (Nat × AV))
 | loop (k : Nat) (ps : Array Nat) (asg body : Code) (st : LoopState) (pd : Option Code)
 | mp (b ag : Bool) (tp : List D) (l : List (List D × D))
structure S where
 sl : List (Nat × AV)
 mem : List (Nat × Ob)
 nx : Nat
def look {α : Type} (k : Nat) : List (Nat × α) → Option α
 | [] => none
 | (a, b) :: t => bif Nat.beq k a then some b else look k t
structure Gh where
 F : Nat → Nat → Option Value
 blk : Nat → Nat
 hi : Nat → Nat
 cp : Nat → Nat
 has : Nat → Bool
inductive DR (F : Nat → Nat → Option Value) : D → Value → Prop
 | bl (b : Bool) : DR F (.bl b) (.bool b)
 | it (k : IntKind) (n : Int) : DR F (.it k n) (.int k n)
 | st (l : List UInt8) : DR F (.st l) (.string ⟨l.toArray⟩)
 | ot (v : Value) (h : v.oneCell' = true) : DR F (.ot v) v
 | fs0 (sz : Nat) (a : Option Addr) (cap : Nat) : DR F (.fs sz []) (.slice a 0 cap)
 | fs (sz : Nat) (es : List (List D)) (b off len cap : Nat) (vs : Nat → Nat → Value) (hl : es.length = len) (hc : len ≤ cap)
   (hs : ∀ i (h : i < es.length), es[i].length = sz) (hF : ∀ i j, i < len → j < sz → F b (off + i * sz + j) = some (vs i j))
   (hr : ∀ i (h : i < es.length) j (hj : j < es[i].length), DR F es[i][j] (vs i j)) : DR F (.fs sz es) (.slice (some ⟨b, off, none⟩) len cap)
 | fp (k : Nat) (cs : List D) (b off : Nat) (vs : Nat → Value) (hl : cs.length = k) (hF : ∀ j, j < k → F b (off + j) = some (vs j))
   (hr : ∀ j (h : j < cs.length), DR F cs[j] (vs j)) : DR F (.fp k cs) (.pointer (some ⟨b, off, none⟩))
 | an (v : Value) (h : v.oneCell' = true) : DR F .an v
def AV.sc : AV → Bool
 | .dg .. | .ag .. | .tup .. | .junk => false
 | _ => true
def VxOK (g : Gh) (sz n i : Nat) (ad : Option Addr) (c : Nat) : Prop :=
 (g.has n = true → (i + c) * sz = g.cp n) ∧ (g.has n = false → i = 0 ∧ c = 0) ∧ (0 < c → ad = some ⟨g.blk n, g.hi n + i * sz, none⟩)
theorem VxOK.pos {g : Gh} {sz n i : Nat} {ad : Option Addr} {c : Nat} (h : VxOK g sz n i ad c) (hc : 0 < c) : g.has n = true ∧ ad = some ⟨g.blk n, g.hi n + i * sz, none⟩ ∧ (i + c) * sz = g.cp n := by
 obtain ⟨h1, h2, h3⟩ := h
 cases hh : g.has n with
 | true => exact ⟨rfl, h3 hc, h1 hh⟩
 | false => have := (h2 hh).2; omega
inductive AVR (g : Gh) : AV → Value → Prop
 | d (x : D) (v : Value) (h : DR g.F x v) : AVR g (.d x) v
 | dg (k : Nat) (cs : List D) (vs : Array Value) (h1 : vs.size = k) (h2 : cs.length = k) (h : ∀ j (h : j < cs.length), DR g.F cs[j] (vs.getD j undef)) : AVR g (.dg k cs) (.agg vs)
 | ag (k : Nat) (cs : List AV) (vs : Array Value) (h1 : vs.size = k) (h2 : cs.length = k) (h3 : ∀ j (h : j < cs.length), cs[j].sc = true)
   (h : ∀ j (h : j < cs.length), AVR g cs[j] (vs.getD j undef)) : AVR g (.ag k cs) (.agg vs)
 | tup (cs : List AV) (vs : Array Value) (h1 : vs.size = cs.length) (h : ∀ j (h : j < cs.length), AVR g cs[j] (vs.getD j undef)) : AVR g (.tup cs) (.tuple vs)
 | ptr (n off : Nat) : AVR g (.ptr n off) (.pointer (some ⟨g.blk n, off, none⟩))
 | ms (sz n off len cap : Nat) (ad : Option Addr) (had : 0 < cap → ad = some ⟨g.blk n, off, none⟩) (hc : len ≤ cap) : AVR g (.ms sz n off len cap) (.slice ad len cap)
 | ts0 (sz : Nat) (es : List (List D)) (n : Nat) (a : Option Addr) (len : Nat) (hl : es.length = len) (hd : DR g.F (.fs sz es) (.slice a len len)) (hh : g.has n = false) (hz : g.hi n = 0 → es = [] ∧ a = none) : AVR g (.ts sz es n) (.slice a len len)
 | ts (sz : Nat) (es : List (List D)) (n off len cap : Nat) (h0 : 0 < sz) (hn : g.has n = true) (hd : DR g.F (.fs sz es) (.slice (some ⟨g.blk n, off, none⟩) len cap)) (hl : es.length = len) (hc : len ≤ cap)
   (h1 : off + len * sz = g.hi n) (h2 : off + cap * sz = g.cp n) (hpos : 0 < len) : AVR g (.ts sz es n) (.slice (some ⟨g.blk n, off, none⟩) len cap)
 | tg (sz : Nat) (es : List (List D)) (a : Option Addr) (len : Nat) (hl : es.length = len) (hd : DR g.F (.fs sz es) (.slice a len len)) : AVR g (.tg sz es) (.slice a len len)
 | nl (sz : Nat) : AVR g (.nl sz) (.slice none 0 0)
 | sd (es : List (List D)) (n : Nat) (p : Option Addr) (h : es ≠ [] → ∃ off len cap, p = some ⟨g.blk n, off, none⟩ ∧ g.has n = true ∧ DR g.F (.fs 1 es) (.slice p len cap) ∧ es.length = len ∧ off + len = g.hi n) : AVR g (.sd es n) (.pointer p)
 | fn (f : Fn) (first cap : List AV) (vs ws : Array Value) (h1 : vs.size = first.length) (h2 : ws.size = cap.length) (h3 : ∀ j (h : j < first.length), AVR g first[j] (vs.getD j undef))
   (h4 : ∀ j (h : j < cap.length), AVR g cap[j] (ws.getD j undef)) : AVR g (.fn f first cap) (.func f vs ws)
 | yld (n : Nat) : AVR g (.yld n) (.func (.yield (g.blk n)) #[] #[])
 | vx (sz n i len : Nat) (ad : Option Addr) (c : Nat) (hc : len ≤ c) (had : VxOK g sz n i ad c) : AVR g (.vx sz n i len) (.slice ad len c)
 | vq (sz n k off : Nat) (h : g.has n = true) : AVR g (.vq sz n k off) (.pointer (some ⟨g.blk n, g.hi n + k * sz + off, none⟩))
 | mp (n : Nat) (r : Option Nat) (h : r = if g.has n = true then some (g.blk n) else none) : AVR g (.mp n) (.map r)
 | jk (v : Value) (h : v.oneCell' = true) : AVR g .jk v
 | junk (v : Value) : AVR g .junk v
def AV.lt0 (m : Nat) : AV → Bool
 | .d _ | .dg .. | .tg .. | .nl _ | .jk | .junk => true
 | .ptr n _ | .ms _ n _ _ _ | .ts _ _ n | .yld n | .sd _ n | .vx _ n _ _ | .vq _ n _ _ | .mp n => Nat.blt n m
 | _ => false
def AV.lt1 (m : Nat) : AV → Bool
 | .fn _ a b => a.all (AV.lt0 m) && b.all (AV.lt0 m)
 | v => v.lt0 m
def AV.lt2 (m : Nat) : AV → Bool
 | .ag _ cs => cs.all (AV.lt1 m)
 | v => v.lt1 m
def AV.lt (m : Nat) : AV → Bool
 | .tup vs => vs.all (AV.lt2 m)
 | v => v.lt2 m
def Ob.lt (m : Nat) : Ob → Bool
 | .cells _ c => c.all (AV.lt1 m)
 | .tail .. => true
 | .vec .. => true
 | .tag k _ => Nat.blt k m
 | .frame _ l => l.all fun p => p.2.lt m
 | .loop k .. => Nat.blt k m
 | .mp .. => true
def S.ok (σ : S) : Bool := σ.sl.all (fun p => p.2.lt σ.nx) && σ.mem.all (fun p => Nat.blt p.1 σ.nx && p.2.lt σ.nx)
def GB : List Nat := []
def GOK (F : Nat → Nat → Option Value) : Prop := ∀ b ∈ GB, ∃ m, F b 0 = some (.int .i64 m)
theorem GOK.mono {F F' : Nat → Nat → Option Value} (h : GOK F) (hF : ∀ b o v, F b o = some v → F' b o = some v) : GOK F' := fun b hb => let ⟨m, e⟩ := h b hb; ⟨m, hF _ _ _ e⟩
structure Ctx where
 w0 : World
 F0 : Nat → Nat → Option Value
 mod : List Nat
 rd : Option Nat
 df : List Nat
 dfb : List Nat
 sv : Nat → Array Value
 lb : Nat → Nat
 gl : GOK F0
def zF : Nat → Nat → Option Value := fun _ _ => some (.int .i64 0)
theorem zF_ok : GOK zF := fun _ _ => ⟨0, rfl⟩
def kz (w : World) : Ctx := ⟨w, zF, [], none, [], [], fun _ => #[], fun _ => 0, zF_ok⟩
def VecOK (g : Gh) (w : World) (n t sz : Nat) (es : List (List D)) (f : Bool) : Prop :=
 (∀ x ∈ es, x.length = sz) ∧ (g.has n = false → es = []) ∧ (g.has n = true → ∃ arr : Array Value, w.heap[g.blk n]? = some (.cells arr t (0, 0)) ∧ g.hi n + g.cp n ≤ arr.size ∧ es.length * sz ≤ g.cp n ∧
  (∀ i (h : i < es.length) j (hj : j < es[i].length), DR g.F es[i][j] (arr.getD (g.hi n + i * sz + j) undef)) ∧ (∀ o, g.F (g.blk n) o = none) ∧ (f = true → es.length * sz = g.cp n) ∧ ∀ j, j < g.cp n → (arr.getD (g.hi n + j) undef).oneCell' = true)
def likeD : D → D → Bool
 | .bl _, .bl _ => true
 | .it k _, .it l _ => decide (k = l)
 | .st _, .st _ => true
 | _, _ => false
def likes : List D → List D → Bool
 | [], [] => true
 | a :: x, b :: y => likeD a b && likes x y
 | _, _ => false
def KeyR (F : Nat → Nat → Option Value) (ag : Bool) (tp cs : List D) (v : Value) : Prop :=
 likes tp cs = true ∧ if ag = true then ∃ vs : Array Value, v = .agg vs ∧ vs.size = cs.length ∧ ∀ j (h : j < cs.length), DR F cs[j] (vs.getD j undef) else ∃ x, cs = [x] ∧ DR F x v
def MapAt (g : Gh) (w : World) (n : Nat) (b ag : Bool) (tp : List D) (l : List (List D × D)) : Prop :=
 (b = true → g.has n = true) ∧ (g.has n = false → l = []) ∧ (g.has n = true → ∃ es : Array MapEntry × Nat, w.heap[g.blk n]? = some (.map es.1 es.2) ∧ es.1.size = l.length ∧ (∀ i (h : i < l.length), KeyR g.F ag tp l[i].1 (es.1.getD i default).key ∧ DR g.F l[i].2 (es.1.getD i default).val) ∧ (∀ o, g.F (g.blk n) o = none) ∧ es.2 = es.1.size ∧ ∀ i, i < es.1.size → (es.1.getD i default).born = i)
def ObOK (κ : Ctx) (g : Gh) (w : World) (n : Nat) : Ob → Prop
 | .cells size c => ∃ arr T, w.heap[g.blk n]? = some (.cells arr T (0, 0)) ∧ arr.size = size ∧ c.length = size ∧ (∀ j (h : j < c.length), c[j].sc = true) ∧
   (∀ j (h : j < c.length), AVR g c[j] (arr.getD j undef)) ∧ ∀ o, g.F (g.blk n) o = none
 | .tail t b => (g.has n = true → ∃ (arr : Array Value) (_ : Unit), w.heap[g.blk n]? = some (.cells arr t (0, 0)) ∧ g.cp n ≤ arr.size ∧ g.hi n ≤ g.cp n ∧ ∀ o, g.hi n ≤ o → g.F (g.blk n) o = none) ∧ (b = true → g.has n = false → g.hi n = 0)
 | .vec t sz es f => VecOK g w n t sz es f
 | .tag m t => ∃ (arr : Array Value) (fz : Nat × Nat), w.heap[g.blk m]? = some (.cells arr t fz)
 | .frame sz l => (∀ m, sz = m + 1 → (κ.sv n).size = m) ∧ ∀ s v, look s l = some v → AVR g v ((κ.sv n).getD s undef)
 | .loop k ps asg body st pd => g.blk n = κ.lb n ∧ ∃ fn D, w.heap[g.blk n]? = some (.loop { state := st, pending := pd, fn := fn, tmps := κ.sv k, params := ps, assign := asg, body := body, defers := D })
 | .mp b ag tp l => MapAt g w n b ag tp l
def On (g : Gh) (mem : List (Nat × Ob)) (n : Nat) : Prop :=
 match look n mem with
 | none => False
 | some (.cells ..) => True
 | some (.tail ..) => g.has n = true
 | some (.vec ..) => g.has n = true
 | some (.tag ..) => False
 | some (.frame ..) => False
 | some (.loop ..) => True
 | some (.mp ..) => g.has n = true
def mark (D : Nat) : Deferred := { target := .collected D, args := #[] }
def wd (r : Option Nat) : Fence := { fn := fun _ => True, depth := none, alive := false, round := r }
structure Inv (κ : Ctx) (g : Gh) (mem : List (Nat × Ob)) (w : World) : Prop where
 frz : ∀ b o v, g.F b o = some v → w.cell? ⟨b, o, none⟩ = some v
 obs : ∀ n o, look n mem = some o → ObOK κ g w n o
 inj : ∀ n m, n ≠ m → On g mem n → On g mem m → g.blk n ≠ g.blk m
 size : κ.w0.heap.size ≤ w.heap.size
 pres : ∀ b, b < κ.w0.heap.size → b ∉ κ.mod → w.heap[b]? = κ.w0.heap[b]?
 own : ∀ n, On g mem n → κ.w0.heap.size ≤ g.blk n ∨ g.blk n ∈ κ.mod
 f0 : ∀ b o v, κ.F0 b o = some v → g.F b o = some v
 fnew : ∀ b o v, g.F b o = some v → κ.F0 b o = some v ∨ κ.w0.heap.size ≤ b ∨ b ∈ κ.mod
 os : w.os = κ.w0.os
 tape : w.tape = κ.w0.tape
 output : w.output = κ.w0.output
 dfr : ∀ D ∈ κ.dfb, w.heap[D]? = some (.deferred (some []))
structure St (κ : Ctx) (N : Nat) (g : Gh) (σ : S) (a : Act) (w : World) : Prop where
 size : a.tmps.size = N
 defers : a.defers = κ.df.map mark
 sl : ∀ k v, look k σ.sl = some v → AVR g v (a.tmps.getD k undef)
 inv : Inv κ g σ.mem w
 ok : σ.ok = true
structure Ext (m : Nat) (g g' : Gh) : Prop where
 F : ∀ b o v, g.F b o = some v → g'.F b o = some v
 blk : ∀ n, n < m → g'.blk n = g.blk n
 hi : ∀ n, n < m → g'.hi n = g.hi n
 cp : ∀ n, n < m → g'.cp n = g.cp n
 has : ∀ n, n < m → g'.has n = g.has n
theorem Ext.refl (m : Nat) (g : Gh) : Ext m g g := ⟨fun _ _ _ h => h, fun _ _ => rfl, fun _ _ => rfl, fun _ _ => rfl, fun _ _ => rfl⟩
theorem Ext.trans {m : Nat} {a b c : Gh} (h : Ext m a b) (k : Ext m b c) : Ext m a c :=
 ⟨fun _ _ _ x => k.F _ _ _ (h.F _ _ _ x), fun n x => (k.blk n x).trans (h.blk n x), fun n x => (k.hi n x).trans (h.hi n x), fun n x => (k.cp n x).trans (h.cp n x), fun n x => (k.has n x).trans (h.has n x)⟩
theorem Ext.mono {m m' : Nat} {a b : Gh} (h : Ext m a b) (hm : m' ≤ m) : Ext m' a b :=
 ⟨h.F, fun n x => h.blk n (by omega), fun n x => h.hi n (by omega), fun n x => h.cp n (by omega), fun n x => h.has n (by omega)⟩
theorem DR.mono {F F' : Nat → Nat → Option Value} (hF : ∀ b o v, F b o = some v → F' b o = some v) {x : D} {v : Value} (h : DR F x v) : DR F' x v := by
 induction h with
 | bl b => exact .bl b
 | it k n => exact .it k n
 | st l => exact .st l
 | ot v h => exact .ot v h
 | an v h => exact .an v h
 | fs0 sz a cap => exact .fs0 sz a cap
 | fs sz es b off len cap vs hl hc hs hF' hr ih => exact .fs sz es b off len cap vs hl hc hs (fun i j hi hj => hF _ _ _ (hF' i j hi hj)) ih
 | fp k cs b off vs hl hF' hr ih => exact .fp k cs b off vs hl (fun j hj => hF _ _ _ (hF' j hj)) ih
theorem KeyR.mono {F F' : Nat → Nat → Option Value} (hF : ∀ b o v, F b o = some v → F' b o = some v) {ag : Bool} {tp cs : List D} {v : Value} (h : KeyR F ag tp cs v) : KeyR F' ag tp cs v := by
 obtain ⟨h0, h⟩ := h
 refine ⟨h0, ?_⟩
 split at h
 ·obtain ⟨vs, e, hs, hv⟩ := h
  rw [if_pos (by assumption)]
  exact ⟨vs, e, hs, fun j hj => (hv j hj).mono hF⟩
 ·obtain ⟨x, e, hv⟩ := h
  rw [if_neg (by assumption)]
  exact ⟨x, e, hv.mono hF⟩
theorem MapAt.mono {g g' : Gh} {w w' : World} {n n' : Nat} {b ag : Bool} {tp : List D} {l : List (List D × D)} (h : MapAt g w n b ag tp l) (hF : ∀ b o v, g.F b o = some v → g'.F b o = some v) (hb : g'.blk n' = g.blk n) (hh : g'.hi n' = g.hi n) (hc : g'.cp n' = g.cp n) (hs : g'.has n' = g.has n)
  (hw : g.has n = true → w'.heap[g.blk n]? = w.heap[g.blk n]?) (hn : g.has n = true → ∀ o, g.F (g.blk n) o = none → g'.F (g.blk n) o = none) : MapAt g' w' n' b ag tp l := by
 obtain ⟨h1, h2, h3⟩ := h
 refine ⟨fun hx => hs.trans (h1 hx), fun hx => h2 (hs.symm.trans hx), fun hx => ?_⟩
 have hx' := hs.symm.trans hx
 obtain ⟨es, q1, q2, q3, q4⟩ := h3 hx'
 exact ⟨es, by rw [hb, hw hx']; exact q1, q2, fun i hi => ⟨(q3 i hi).1.mono hF, (q3 i hi).2.mono hF⟩, fun o => by rw [hb]; exact hn hx' o (q4.1 o), q4.2⟩
theorem AVR.mpr {g g' : Gh} {n n' : Nat} {v : Value} (eb : g'.blk n' = g.blk n) (eh : g'.has n' = g.has n) (h : AVR g (.mp n) v) : AVR g' (.mp n') v := by
 cases h with | mp _ r h => exact .mp n' r (by rw [eb, eh]; exact h)
theorem VecOK.mono {g g' : Gh} {w w' : World} {n t sz : Nat} {es : List (List D)} {f : Bool} (h : VecOK g w n t sz es f) (hF : ∀ b o v, g.F b o = some v → g'.F b o = some v) (hb : g'.blk n = g.blk n) (hh : g'.hi n = g.hi n) (hc : g'.cp n = g.cp n) (hs : g'.has n = g.has n)
  (hw : g.has n = true → w'.heap[g.blk n]? = w.heap[g.blk n]?) (hn : g.has n = true → ∀ o, g.F (g.blk n) o = none → g'.F (g.blk n) o = none) : VecOK g' w' n t sz es f := by
 obtain ⟨h1, h2, h3⟩ := h
 refine ⟨h1, fun hx => h2 (hs.symm.trans hx), fun hx => ?_⟩
 have hx' := hs.symm.trans hx
 obtain ⟨arr, e1, e2, e3, e4, e5, e6, e7⟩ := h3 hx'
 refine ⟨arr, by rw [hb, hw hx']; exact e1, by rw [hh, hc]; exact e2, by rw [hc]; exact e3, fun i hi j hj => by rw [hh]; exact (e4 i hi j hj).mono hF, fun o => by rw [hb]; exact hn hx' o (e5 o), fun hf => by rw [hc]; exact e6 hf, fun j hj => by rw [hc] at hj; rw [hh]; exact e7 j hj⟩
theorem DR.one {F : Nat → Nat → Option Value} {x : D} {v : Value} (h : DR F x v) : v.oneCell' = true := by
 cases h <;> first | rfl | assumption
theorem AVR.one {g : Gh} {x : AV} {v : Value} (h : AVR g x v) (hs : x.sc = true) : v.oneCell' = true := by
 cases h with
 | d x v h => exact h.one
 | dg => cases hs
 | ag => cases hs
 | tup => cases hs
 | junk => cases hs
 | jk _ h => exact h
 | _ => rfl
theorem AV.lt0_mono {m m' : Nat} {v : AV} (h : v.lt0 m = true) (hm : m ≤ m') : v.lt0 m' = true := by
 cases v <;> simp only [AV.lt0, Nat.blt_eq] at h ⊢ <;> first | trivial | omega
theorem AV.lt1_mono {m m' : Nat} {v : AV} (h : v.lt1 m = true) (hm : m ≤ m') : v.lt1 m' = true := by
 cases v with
 | fn f a b =>
  simp only [AV.lt1, List.all_eq_true, Bool.and_eq_true] at h ⊢
  exact ⟨fun x hx => AV.lt0_mono (h.1 x hx) hm, fun x hx => AV.lt0_mono (h.2 x hx) hm⟩
 | _ => simp only [AV.lt1] at h ⊢; exact AV.lt0_mono h hm
theorem AV.lt2_mono {m m' : Nat} {v : AV} (h : v.lt2 m = true) (hm : m ≤ m') : v.lt2 m' = true := by
 cases v with
 | ag k cs =>
  simp only [AV.lt2, List.all_eq_true] at h ⊢
  exact fun x hx => AV.lt1_mono (h x hx) hm
 | _ => simp only [AV.lt2] at h ⊢; exact AV.lt1_mono h hm
theorem AV.lt_mono {m m' : Nat} {v : AV} (h : v.lt m = true) (hm : m ≤ m') : v.lt m' = true := by
 cases v with
 | tup cs =>
  simp only [AV.lt, List.all_eq_true] at h ⊢
  exact fun x hx => AV.lt2_mono (h x hx) hm
 | _ => simp only [AV.lt] at h ⊢; exact AV.lt2_mono h hm
theorem AVR.ext0 {m : Nat} {g g' : Gh} (he : Ext m g g') {x : AV} {v : Value} (hl : x.lt0 m = true) (h : AVR g x v) : AVR g' x v := by
 cases h with
 | d x v h => exact .d x v (h.mono he.F)
 | dg k cs vs h1 h2 h => exact .dg k cs vs h1 h2 fun j hj => (h j hj).mono he.F
 | ag => cases hl
 | tup => cases hl
 | fn => cases hl
 | ptr n off =>
  simp only [AV.lt0, Nat.blt_eq] at hl
  rw [← he.blk n hl]; exact .ptr n off
 | ms sz n off len cap ad had hc =>
  simp only [AV.lt0, Nat.blt_eq] at hl
  exact .ms sz n off len cap ad (fun h => by rw [he.blk n hl]; exact had h) hc
 | ts0 _ _ n a len hl1 hd hh hz =>
  simp only [AV.lt0, Nat.blt_eq] at hl
  exact .ts0 _ _ _ a len hl1 (hd.mono he.F) ((he.has n hl).trans hh) fun h => hz ((he.hi n hl).symm.trans h)
 | ts sz es n off len cap h0 hn hd hl' hc h1 h2 hpos =>
  simp only [AV.lt0, Nat.blt_eq] at hl
  rw [← he.blk n hl] at hd ⊢
  exact .ts sz es n off len cap h0 ((he.has n hl).trans hn) (hd.mono he.F) hl' hc (h1.trans (he.hi n hl).symm) (h2.trans (he.cp n hl).symm) hpos
 | tg sz es a len hl' hd => exact .tg sz es a len hl' (hd.mono he.F)
 | nl sz => exact .nl sz
 | sd es n p h =>
  simp only [AV.lt0, Nat.blt_eq] at hl
  refine .sd es n p fun hne => ?_
  obtain ⟨off, len, cap, k1, k2, k3, k4, k5⟩ := h hne
  exact ⟨off, len, cap, by rw [he.blk n hl]; exact k1, (he.has n hl).trans k2, k3.mono he.F, k4, k5.trans (he.hi n hl).symm⟩
 | yld n =>
  simp only [AV.lt0, Nat.blt_eq] at hl
  rw [← he.blk n hl]; exact .yld n
 | mp n r h =>
  simp only [AV.lt0, Nat.blt_eq] at hl
  exact AVR.mpr (he.blk n hl) (he.has n hl) (.mp n r h)
 | vx sz n i len ad c hc had =>
  simp only [AV.lt0, Nat.blt_eq] at hl
  exact .vx sz n i len ad c hc (by unfold VxOK; rw [he.has n hl, he.blk n hl, he.hi n hl, he.cp n hl]; exact had)
 | vq sz n k off h =>
  simp only [AV.lt0, Nat.blt_eq] at hl
  rw [← he.blk n hl, ← he.hi n hl]; exact .vq sz n k off ((he.has n hl).trans h)
 | jk v h => exact .jk v h
 | junk v => exact .junk v
theorem AVR.ext1 {m : Nat} {g g' : Gh} (he : Ext m g g') {x : AV} {v : Value} (hl : x.lt1 m = true) (h : AVR g x v) : AVR g' x v := by
 by_cases hx : ∃ f a b, x = .fn f a b
 ·obtain ⟨f, a, b, rfl⟩ := hx
  cases h with
  | fn f x1 x2 vs ws h1 h2 h3 h4 =>
   simp only [AV.lt1, List.all_eq_true, Bool.and_eq_true] at hl
   exact .fn _ _ _ vs ws h1 h2 (fun j hj => (h3 j hj).ext0 he (hl.1 _ (List.getElem_mem hj))) (fun j hj => (h4 j hj).ext0 he (hl.2 _ (List.getElem_mem hj)))
 ·refine h.ext0 he ?_
  cases x <;> first | exact hl | exact absurd ⟨_, _, _, rfl⟩ hx
theorem AVR.ext2 {m : Nat} {g g' : Gh} (he : Ext m g g') {x : AV} {v : Value} (hl : x.lt2 m = true) (h : AVR g x v) : AVR g' x v := by
 by_cases hx : ∃ k cs, x = .ag k cs
 ·obtain ⟨k, cs, rfl⟩ := hx
  cases h with
  | ag k cs vs h1 h2 h3 h =>
   simp only [AV.lt2, List.all_eq_true] at hl
   exact .ag k cs vs h1 h2 h3 fun j hj => (h j hj).ext1 he (hl _ (List.getElem_mem hj))
 ·refine h.ext1 he ?_
  cases x <;> first | exact hl | exact absurd ⟨_, _, rfl⟩ hx
theorem AVR.ext {m : Nat} {g g' : Gh} (he : Ext m g g') {x : AV} {v : Value} (hl : x.lt m = true) (h : AVR g x v) : AVR g' x v := by
 by_cases hx : ∃ cs, x = .tup cs
 ·obtain ⟨cs, rfl⟩ := hx
  cases h with
  | tup cs vs h1 h =>
   simp only [AV.lt, List.all_eq_true] at hl
   exact .tup cs vs h1 fun j hj => (h j hj).ext2 he (hl _ (List.getElem_mem hj))
 ·refine h.ext2 he ?_
  cases x <;> first | exact hl | exact absurd ⟨_, rfl⟩ hx
theorem AV.lt_of_lt1 {m : Nat} {v : AV} (h : v.lt1 m = true) : v.lt m = true := by
 cases v <;> first | exact h | cases h
theorem look_mem {α : Type} {k : Nat} {l : List (Nat × α)} {x : α} (h : look k l = some x) : (k, x) ∈ l := by
 induction l with
 | nil => cases h
 | cons p t ih =>
  obtain ⟨a, b⟩ := p
  simp only [look] at h
  cases hk : Nat.beq k a with
  | true => rw [hk] at h; simp only [cond_true, Option.some.injEq] at h; rw [Nat.eq_of_beq_eq_true hk, h]; exact List.mem_cons_self
  | false => rw [hk] at h; simp only [cond_false] at h; exact List.mem_cons_of_mem _ (ih h)
theorem look_cons {α : Type} (k a : Nat) (b : α) (t : List (Nat × α)) : look k ((a, b) :: t) = if k = a then some b else look k t := by
 simp only [look]
 by_cases h : k = a
 ·simp [h, Nat.beq_refl]
 ·rw [if_neg h]
  have : Nat.beq k a = false := by
   cases hk : Nat.beq k a with
   | true => exact absurd (Nat.eq_of_beq_eq_true hk) h
   | false => rfl
  simp [this]
theorem S.ok_sl {σ : S} (h : σ.ok = true) {k : Nat} {v : AV} (hk : look k σ.sl = some v) : v.lt σ.nx = true := by
 simp only [S.ok, Bool.and_eq_true, List.all_eq_true] at h
 exact h.1 _ (look_mem hk)
theorem S.ok_mem {σ : S} (h : σ.ok = true) {k : Nat} {v : Ob} (hk : look k σ.mem = some v) : k < σ.nx ∧ v.lt σ.nx = true := by
 simp only [S.ok, Bool.and_eq_true, List.all_eq_true, Nat.blt_eq] at h
 exact h.2 _ (look_mem hk)
end Go.Sy
namespace Go.Sy
inductive Kd where
 | bool | int (k : IntKind) | string | slice (e : Nat) | arr (n e : Nat) | struct (fs : List (Nat × Nat)) | ptr (e : Nat) | map (k e : Nat) | func | usafe | other
structure Ty where
 kd : Kd
 size : Nat
 bytes : Nat
 zero : List D
 cmp : Option (List D)
 pl : List (Nat × Nat)
def kdOf : TypeDesc → Kd
 | .bool => .bool
 | .int k => .int k
 | .string => .string
 | .slice e => .slice e
 | .array n e => .arr n e
 | .struct fs => .struct (fs.toList.map fun f => (f.offset, f.type))
 | .pointer e => .ptr e
 | .map k e => .map k e
 | .func .. => .func
 | .unsafePointer => .usafe
 | _ => .other
def zeroD (sz : Nat) : Value → D
 | .bool b => .bl b
 | .int k n => .it k n
 | .string s => .st s.data.toList
 | .slice none 0 0 => .fs sz []
 | v => .ot v
def zl : List Value → List Nat → List D
 | [], _ => []
 | v :: t, h => zeroD (h.headD 0) v :: zl t h.tail
def zeroL (z : Option Value) (h : List Nat) : List D :=
 match z with
 | some z => bif z.cells.toList.all Value.oneCell' then zl z.cells.toList h else []
 | none => []
def slH (P : Program) : Nat → Nat → List Nat
 | 0, _ => []
 | n + 1, t => match P.underlying t, P.info? t with
  | some (.slice e), _ => [match P.info? e with | some i => i.size | none => 0]
  | some (.struct fs), _ => fs.toList.flatMap fun f => slH P n f.type
  | some (.array k e), _ => (List.replicate k (slH P n e)).flatten
  | _, some i => List.replicate i.size 0
  | _, none => []
def toA : D → AV
 | .fs sz [] => .nl sz
 | x => .d x
def flatKs (K : Nat → Option (List D)) : List Field → Nat → Option (List D)
 | [], _ => some []
 | f :: r, o => bif f.offset == o && f.name != "_" then (match K f.type with
  | some l => match flatKs K r (o + l.length) with | some l' => some (l ++ l') | none => none
  | none => none) else none
def reps : Nat → List D → List D
 | 0, _ => []
 | n + 1, l => l ++ reps n l
def flatK (P : Program) : Nat → Nat → Option (List D)
 | 0, _ => none
 | n + 1, t => match (match P.underlying t with
  | some .bool => some [D.bl false]
  | some (.int k) => some [D.it k 0]
  | some .string => some [D.st []]
  | some (.struct fs) => bif P.stoodInHeld t then none else flatKs (flatK P n) fs.toList 0
  | some (.array len e) => match flatK P n e with | some l => some (reps len l) | none => none
  | _ => none), P.info? t with
  | some l, some i => bif i.size == l.length then some l else none
  | _, _ => none
def plOf (P : Program) : TypeDesc → Option (List (Nat × Nat))
 | .struct fs => fs.toList.mapM fun f => (P.info? f.type).map fun i => (f.offset, i.size)
 | _ => some []
def tyOf (P : Program) (t : Nat) : Option Ty :=
 match P.info? t, P.underlying t with
 | some i, some u => match plOf P u with
  | some pl => some ⟨kdOf u, i.size, i.bytes, zeroL i.zero (slH P 6 t), bif P.eqGuardType P.depth t then none else flatK P 6 t, pl⟩
  | none => none
 | _, _ => none
def TiOK (P : Program) (ti : Nat → Option Ty) : Prop := ∀ t ty, ti t = some ty → tyOf P t = some ty
structure TyOK (P : Program) (t : Nat) (ty : Ty) (u : TypeDesc) (i : TypeInfo) : Prop where
 und : P.underlying t = some u
 info : P.info? t = some i
 kd : kdOf u = ty.kd
 size : i.size = ty.size
 bytes : i.bytes = ty.bytes
 zero : zeroL i.zero (slH P 6 t) = ty.zero
 cmp : ty.cmp = bif P.eqGuardType P.depth t then none else flatK P 6 t
 pl : plOf P u = some ty.pl
theorem tyOf_ok {P : Program} {t : Nat} {ty : Ty} (h : tyOf P t = some ty) : ∃ u i, TyOK P t ty u i := by
 unfold tyOf at h
 split at h
 ·rename_i i u hi hu
  split at h
  ·rename_i pl hp
   obtain rfl := Option.some.inj h
   exact ⟨u, i, hu, hi, rfl, rfl, rfl, rfl, rfl, hp⟩
  ·cases h
 ·cases h
theorem run_typeInfo' {P : Program} {t : Nat} {i : TypeInfo} (h : P.info? t = some i) (w : World) : (typeInfo t).run P w = .ok i w := by
 simp [typeInfo, h]
theorem run_sizeOf' {P : Program} {t : Nat} {i : TypeInfo} (h : P.info? t = some i) (w : World) : (sizeOf t).run P w = .ok i.size w := by
 simp [sizeOf, run_typeInfo' h]
def Kd.agg : Kd → Bool
 | .arr .. | .struct .. => true
 | _ => false
theorem run_isAgg' {P : Program} {t : Nat} {u : TypeDesc} (h : P.underlying t = some u) (w : World) : (isAgg t).run P w = .ok (kdOf u).agg w := by
 simp only [isAgg, Sem.run_bind, run_underlying h, Result.andThen_ok]
 cases u <;> rfl
theorem addr_add (b off i : Nat) : (⟨b, off, none⟩ : Addr).add i = ⟨b, off + i, none⟩ := by
 unfold Addr.add; split <;> simp_all
def ofConst : Value → AV
 | .bool b => .d (.bl b)
 | .int k n => .d (.it k n)
 | .string s => .d (.st s.data.toList)
 | .slice none 0 _ => .d (.fs 0 [])
 | .agg _ | .tuple _ => .junk
 | v => .d (.ot v)
theorem zeroD_ok (F : Nat → Nat → Option Value) (sz : Nat) (v : Value) (h : v.oneCell' = true) : DR F (zeroD sz v) v := by
 unfold zeroD
 split
 ·exact .bl _
 ·exact .it _ _
 ·rename_i s; obtain ⟨⟨l⟩⟩ := s; exact .st l
 ·exact .fs0 _ _ _
 ·exact .ot _ h
theorem zeroA_ok (g : Gh) (sz : Nat) (v : Value) (h : v.oneCell' = true) : AVR g (toA (zeroD sz v)) v := by
 have h1 := zeroD_ok g.F sz v h
 unfold zeroD at h1 ⊢
 split
 ·exact .d _ _ (.bl _)
 ·exact .d _ _ (.it _ _)
 ·rename_i s; obtain ⟨⟨l⟩⟩ := s; exact .d _ _ (.st l)
 ·exact .nl _
 ·exact .d _ _ (.ot _ h)
theorem toA_lt (x : D) (m : Nat) : (toA x).lt1 m = true := by unfold toA; split <;> rfl
theorem toA_sc (x : D) : (toA x).sc = true := by unfold toA; split <;> rfl
theorem zl_length : ∀ (l : List Value) (h : List Nat), (zl l h).length = l.length
 | [], _ => rfl
 | v :: t, h => by simp [zl, zl_length t]
theorem zl_get : ∀ (l : List Value) (h : List Nat) (j : Nat) (hj : j < (zl l h).length) (hj' : j < l.length), ∃ sz, (zl l h)[j] = zeroD sz l[j]
 | v :: t, h, 0, _, _ => ⟨_, rfl⟩
 | v :: t, h, j + 1, hj, hj' => zl_get t h.tail j (by simpa [zl] using hj) (by simpa using hj')
theorem ofConst_ok (g : Gh) (v : Value) : AVR g (ofConst v) v := by
 unfold ofConst
 split
 ·exact .d _ _ (.bl _)
 ·exact .d _ _ (.it _ _)
 ·rename_i s; obtain ⟨⟨l⟩⟩ := s; exact .d _ _ (.st l)
 ·exact .d _ _ (.fs0 _ _ _)
 ·exact .junk _
 ·exact .junk _
 ·rename_i h1 h2 h3 h4 h5 h6
  refine .d _ _ (.ot _ ?_)
  cases v <;> first | rfl | (exact absurd rfl (h5 _)) | (exact absurd rfl (h6 _))
def ρ (sl : List (Nat × AV)) : Operand → Option AV
 | .tmp t => look t sl
 | .const v => some (ofConst v)
 | .func f => some (.fn (.func f) [] [])
 | .global _ => none
theorem ofConst_lt (v : Value) (m : Nat) : (ofConst v).lt m = true := by
 unfold ofConst; split <;> rfl
theorem ρ_ok {g : Gh} {sl : List (Nat × AV)} {a : Act} (h : ∀ k v, look k sl = some v → AVR g v (a.tmps.getD k undef)) {x : Operand} {v : AV} (hx : ρ sl x = some v) : AVR g v (a.eval x) := by
 cases x with
 | tmp t => exact h t v hx
 | const c => obtain rfl := Option.some.inj hx; exact ofConst_ok g c
 | global _ => cases hx
 | func f => obtain rfl := Option.some.inj hx; exact .fn _ _ _ _ _ rfl rfl (fun j hj => by cases hj) (fun j hj => by cases hj)
theorem ρ_lt {σ : S} (hσ : σ.ok = true) {x : Operand} {v : AV} (hx : ρ σ.sl x = some v) : v.lt σ.nx = true := by
 cases x with
 | tmp t => exact S.ok_sl hσ hx
 | const c => obtain rfl := Option.some.inj hx; exact ofConst_lt c _
 | global _ => cases hx
 | func f => obtain rfl := Option.some.inj hx; rfl
def AV.isP : AV → Bool
 | .d _ | .dg .. => true
 | .tup vs => vs.all fun | .d _ | .dg .. => true | _ => false
 | _ => false
def frzL : List AV → Option (List D)
 | [] => some []
 | .d x :: t => match frzL t with | some l => some (x :: l) | none => none
 | .ts sz es _ :: t => match frzL t with | some l => some (.fs sz es :: l) | none => none
 | .tg sz es :: t => match frzL t with | some l => some (.fs sz es :: l) | none => none
 | .nl sz :: t => match frzL t with | some l => some (.fs sz [] :: l) | none => none
 | .mp _ :: t => match frzL t with | some l => some (.an :: l) | none => none
 | .jk :: t => match frzL t with | some l => some (.an :: l) | none => none
 | _ => none
def AV.pure1 : AV → Option AV
 | .d x => some (.d x)
 | .dg k cs => some (.dg k cs)
 | .ts sz es _ => some (.d (.fs sz es))
 | .tg sz es => some (.d (.fs sz es))
 | .nl sz => some (.d (.fs sz []))
 | .ag k cs => match frzL cs with | some l => some (.dg k l) | none => none
 | _ => none
def pureL : List AV → Option (List AV)
 | [] => some []
 | v :: t => match v.pure1, pureL t with | some x, some l => some (x :: l) | _, _ => none
def AV.pure : AV → Option AV
 | .tup vs => match pureL vs with | some l => some (.tup l) | none => none
 | v => v.pure1
theorem frzL_ok {g : Gh} : ∀ {l : List AV} {ds : List D}, frzL l = some ds → ds.length = l.length ∧ ∀ (f : Nat → Value), (∀ j (h : j < l.length), AVR g l[j] (f j)) → ∀ j (h : j < ds.length), DR g.F ds[j] (f j)
 | [], ds, h => by obtain rfl := Option.some.inj h; exact ⟨rfl, fun _ _ j hj => by cases hj⟩
 | v :: t, ds, h => by
  have key : ∃ x l, ds = x :: l ∧ frzL t = some l ∧ ∀ u, AVR g v u → DR g.F x u := by
   cases v <;> simp only [frzL] at h <;> try cases h
   ·rename_i x
    split at h
    ·rename_i l hl; obtain rfl := Option.some.inj h
     exact ⟨_, _, rfl, hl, fun u hu => by cases hu; assumption⟩
    ·cases h
   ·rename_i sz es n
    split at h
    ·rename_i l hl; obtain rfl := Option.some.inj h
     refine ⟨_, _, rfl, hl, fun u hu => ?_⟩
     cases hu with
     | ts0 => assumption
     | ts => assumption
    ·cases h
   ·rename_i sz es
    split at h
    ·rename_i l hl; obtain rfl := Option.some.inj h
     exact ⟨_, _, rfl, hl, fun u hu => by cases hu; assumption⟩
    ·cases h
   ·split at h
    ·rename_i l hl; obtain rfl := Option.some.inj h
     exact ⟨_, _, rfl, hl, fun u hu => by cases hu; exact .fs0 _ _ _⟩
    ·cases h
   ·split at h
    ·rename_i l hl; obtain rfl := Option.some.inj h
     exact ⟨_, _, rfl, hl, fun u hu => .an _ (hu.one rfl)⟩
    ·cases h
   ·split at h
    ·rename_i l hl; obtain rfl := Option.some.inj h
     exact ⟨_, _, rfl, hl, fun u hu => .an _ (hu.one rfl)⟩
    ·cases h
  obtain ⟨x, l, rfl, hl, hx⟩ := key
  obtain ⟨i1, i2⟩ := frzL_ok (g := g) hl
  refine ⟨by simp [i1], fun f hf j hj => ?_⟩
  cases j with
  | zero => exact hx _ (hf 0 (by simp))
  | succ j => exact i2 (fun j => f (j + 1)) (fun j hj => hf (j + 1) (by simpa using hj)) j (by simpa using hj)
theorem pure1_ok {g : Gh} {v r : AV} {u : Value} (h : v.pure1 = some r) (hu : AVR g v u) : AVR g r u := by
 cases v <;> simp only [AV.pure1] at h <;> try cases h
 ·exact hu
 ·exact hu
 ·rename_i k cs
  split at h
  ·rename_i l hl; obtain rfl := Option.some.inj h
   cases hu with
   | ag k cs vs h1 h2 h3 h4 =>
    obtain ⟨i1, i2⟩ := frzL_ok (g := g) hl
    exact .dg _ _ _ h1 (i1.trans h2) fun j hj => i2 (fun j => vs.getD j undef) h4 j hj
  ·cases h
 ·cases hu with
  | ts0 => exact .d _ _ (by assumption)
  | ts => exact .d _ _ (by assumption)
 ·cases hu; exact .d _ _ (by assumption)
 ·cases hu; exact .d _ _ (.fs0 _ _ _)
theorem pure1_isP {v r : AV} (h : v.pure1 = some r) : (∃ x, r = .d x) ∨ ∃ k cs, r = .dg k cs := by
 cases v <;> simp only [AV.pure1] at h <;> try cases h
 ·exact .inl ⟨_, rfl⟩
 ·exact .inr ⟨_, _, rfl⟩
 ·split at h
  ·obtain rfl := Option.some.inj h; exact .inr ⟨_, _, rfl⟩
  ·cases h
 ·exact .inl ⟨_, rfl⟩
 ·exact .inl ⟨_, rfl⟩
 ·exact .inl ⟨_, rfl⟩
theorem pureL_ok {g : Gh} : ∀ {l r : List AV}, pureL l = some r → r.length = l.length ∧ (∀ (f : Nat → Value), (∀ j (h : j < l.length), AVR g l[j] (f j)) → ∀ j (h : j < r.length), AVR g r[j] (f j)) ∧ ∀ x ∈ r, (∃ y, x = .d y) ∨ ∃ k cs, x = .dg k cs
 | [], r, h => by obtain rfl := Option.some.inj h; exact ⟨rfl, fun _ _ j hj => (by cases hj), fun x hx => by cases hx⟩
 | v :: t, r, h => by
  simp only [pureL] at h
  split at h
  ·rename_i x l hx hl
   obtain rfl := Option.some.inj h
   obtain ⟨i1, i2, i3⟩ := pureL_ok (g := g) hl
   refine ⟨by simp [i1], fun f hf j hj => ?_, fun y hy => ?_⟩
   ·cases j with
    | zero => exact pure1_ok hx (hf 0 (by simp))
    | succ j => exact i2 (fun j => f (j + 1)) (fun j hj => hf (j + 1) (by simpa using hj)) j (by simpa using hj)
   ·rcases List.mem_cons.1 hy with rfl | hy
    ·exact pure1_isP hx
    ·exact i3 y hy
  ·cases h
theorem pure_ok {g : Gh} {v r : AV} {u : Value} (h : v.pure = some r) (hu : AVR g v u) : AVR g r u ∧ r.isP = true := by
 have one : ∀ {v r : AV} {u : Value}, v.pure1 = some r → AVR g v u → AVR g r u ∧ r.isP = true := fun h hu =>
  ⟨pure1_ok h hu, by rcases pure1_isP h with ⟨x, rfl⟩ | ⟨k, cs, rfl⟩ <;> rfl⟩
 cases v with
 | tup vs =>
  simp only [AV.pure] at h
  split at h
  ·rename_i l hl; obtain rfl := Option.some.inj h
   obtain ⟨i1, i2, i3⟩ := pureL_ok (g := g) hl
   cases hu with
   | tup cs us h1 h2 =>
    refine ⟨.tup _ _ (h1.trans i1.symm) fun j hj => i2 (fun j => us.getD j undef) h2 j hj, ?_⟩
    simp only [AV.isP, List.all_eq_true]
    intro x hx
    rcases i3 x hx with ⟨y, rfl⟩ | ⟨k, cs, rfl⟩ <;> rfl
  ·cases h
 | _ => exact one (by simpa only [AV.pure] using h) hu
theorem isP_lt {v : AV} (h : v.isP = true) (m : Nat) : v.lt m = true := by
 cases v <;> first | rfl | (simp [AV.isP] at h; done) | skip
 rename_i vs
 simp only [AV.isP, List.all_eq_true] at h
 simp only [AV.lt, List.all_eq_true]
 intro x hx
 have := h x hx
 cases x <;> first | rfl | simp at this
theorem isP_mono {g g' : Gh} (hF : ∀ b o v, g.F b o = some v → g'.F b o = some v) {v : AV} {u : Value} (h : v.isP = true) (hu : AVR g v u) : AVR g' v u :=
 hu.ext (m := 0) ⟨hF, fun n hn => by omega, fun n hn => by omega, fun n hn => by omega, fun n hn => by omega⟩ (isP_lt h 0)
end Go.Sy
namespace Go.Sy
def Does (P : Program) (mem : List (Nat × Ob)) (nx : Nat) (r : Operand → Option AV) (o : Oper) (av : AV) : Prop :=
 av.lt nx = true ∧ ∀ (κ : Ctx) (g : Gh) (a : Act) (w : World), Inv κ g mem w → (∀ x ∈ o.op.operands.toList, ∀ v, r x = some v → AVR g v (a.eval x)) →
  ∀ (next : Act → World → Prop) (Q : Exit → Act → World → Prop), (∀ g' v w', Ext nx g g' → Inv κ g' mem w' → AVR g' av v → next (a.put o.dst v) w') → o.wpIn (wd κ.rd) 0 P a w next Q
theorem semAt_of {P : Program} {o : Oper} {ρ : Operand → Value} {w w' : World} {x : Next} {r : Option Nat} (h : (execOp ρ o).run P w = .ok x w') (hx : ∀ d, x ≠ .defer d) : (o.semAt r ρ).run P w = .ok x w' := by
 by_cases hd : ∃ c, o.op = .defer c
 ·obtain ⟨c, hc⟩ := hd
  exfalso
  simp only [execOp, hc, Sem.run_bind] at h
  cases hr : (resolve ρ c o.type).run P w with
  | ok d w1 => rw [hr] at h; simp only [Result.andThen_ok, Sem.run_pure, Result.ok.injEq] at h; exact hx d h.1.symm
  | halt p w1 => rw [hr] at h; simp at h
 ·rw [Oper.semAt_eq _ _ _ fun c hc => hd ⟨c, hc⟩]; exact h
theorem wp_value {P : Program} {o : Oper} {a : Act} {w w' : World} {v : Value} {next : Act → World → Prop} {Q : Exit → Act → World → Prop} {r : Option Nat}
  (h : (execOp a.eval o).run P w = .ok (.value v) w') (hn : next (a.put o.dst v) w') : o.wpIn (wd r) 0 P a w next Q := by
 refine ⟨fun _ _ => trivial, ?_⟩
 rw [semAt_of h (fun d hd => by cases hd)]; exact hn
theorem wp_skipped {P : Program} {o : Oper} {a : Act} {w w' : World} {next : Act → World → Prop} {Q : Exit → Act → World → Prop} {r : Option Nat}
  (h : (execOp a.eval o).run P w = .ok .skip w') (hn : next (a.put o.dst undef) w') : o.wpIn (wd r) 0 P a w next Q := by
 refine ⟨fun _ _ => trivial, ?_⟩
 rw [semAt_of h (fun d hd => by cases hd)]; exact hn
theorem callsIn_wd {P : Program} {f : FuncId} {args : Array Value} {w : World} {R : Ending → World → Prop} {r : Option Nat} {n : Nat} (h : Calls P f args w R) : CallsIn (wd r) n P f args w R := by
 have := callsIn_wide (n := n).2 h
 refine ⟨trivial, fun cs _ => ?_⟩
 obtain ⟨e, w', fr, k1, k2, k3⟩ := this.2 cs (room_wide _)
 exact ⟨e, w', fr, k1, k2, k3⟩
theorem wp_enter {P : Program} {o : Oper} {a : Act} {w w' : World} {f : FuncId} {args : Array Value} {next : Act → World → Prop} {Q : Exit → Act → World → Prop} {r : Option Nat}
  (h : (execOp a.eval o).run P w = .ok (.enter f args) w') (hn : Calls P f args w' fun e w'' => ∃ v, e = .returned v ∧ next (a.put o.dst v) w'') : o.wpIn (wd r) 0 P a w next Q := by
 refine ⟨fun _ _ => trivial, ?_⟩
 rw [semAt_of h (fun d hd => by cases hd)]
 refine ⟨fun hd => by simp [wd] at hd, callsIn_wd (hn.mono fun e w'' ⟨v, he, hv⟩ => ?_)⟩
 subst he
 exact hv
theorem Does.of_run {P : Program} {mem : List (Nat × Ob)} {nx : Nat} {r : Operand → Option AV} {o : Oper} {av : AV} (hl : av.lt nx = true)
  (h : ∀ (κ : Ctx) (g : Gh) (a : Act) (w : World), Inv κ g mem w → (∀ x ∈ o.op.operands.toList, ∀ v, r x = some v → AVR g v (a.eval x)) → ∃ v, (execOp a.eval o).run P w = .ok (.value v) w ∧ AVR g av v) :
  Does P mem nx r o av :=
 ⟨hl, fun κ g a w hi ho next Q hn => let ⟨v, hr, hv⟩ := h κ g a w hi ho; wp_value hr (hn g v w (.refl _ _) hi hv)⟩
structure Spl (b : Bool) (A B : Prop) : Prop where
 t : b = true → A
 f : b = false → B
theorem Spl.tt {A B : Prop} (h : A) : Spl true A B := ⟨fun _ => h, (fun h => by cases h)⟩
theorem Spl.ff {A B : Prop} (h : B) : Spl false A B := ⟨(fun h => by cases h), fun _ => h⟩
def optK (v : Option AV) (K : AV → Prop) : Prop :=
 match v with
 | some v => K v
 | none => False
def ldD (ty : Ty) (cs : List D) : AV := bif ty.kd.agg then .dg ty.size (cs.take ty.size) else .d (cs.getD 0 (.bl false))
def allD : List AV → Option (List D)
 | [] => some []
 | .d x :: t => match allD t with | some l => some (x :: l) | none => none
 | _ => none
def mkAg (k : Nat) (cs : List AV) : AV :=
 match allD cs with
 | some l => .dg k l
 | none => .ag k cs
def ldA (ty : Ty) (off : Nat) (c : List AV) : AV := bif ty.kd.agg then mkAg ty.size ((c.drop off).take ty.size) else c.getD off .junk
structure LetI (e : Int) (K : Int → Prop) : Prop where
 run : K e
structure AtA (a : AV) (K : AV → Prop) : Prop where
 run : K a
structure AtD (a : List D) (K : List D → Prop) : Prop where
 run : K a
structure LetN (e : Nat) (K : Nat → Prop) : Prop where
 run : K e
theorem AtA.bif {c : Bool} {a : AV} {K : AV → Prop} (h : bif c then AtA a K else K a) : K a := by
 cases c with
 | true => exact h.run
 | false => exact h
theorem AtD.bif {c : Bool} {a : List D} {K : List D → Prop} (h : bif c then AtD a K else K a) : K a := by
 cases c with
 | true => exact h.run
 | false => exact h
def binI (op : BinOp) (k : IntKind) (a b : Int) (K : D → Prop) : Prop :=
 match op with
 | .add => LetI (k.wrap (a + b)) fun z => K (.it k z)
 | .sub => LetI (k.wrap (a - b)) fun z => K (.it k z)
 | .mul => LetI (k.wrap (a * b)) fun z => K (.it k z)
 | .quo => b ≠ 0 ∧ LetI (k.wrap (a.tdiv b)) fun z => K (.it k z)
 | .rem => b ≠ 0 ∧ LetI (a.tmod b) fun z => K (.it k z)
 | .eql => K (.bl (a == b))
 | .neq => K (.bl (a != b))
 | .lss => K (.bl (a < b))
 | .leq => K (.bl (a ≤ b))
 | .gtr => K (.bl (a > b))
 | .geq => K (.bl (a ≥ b))
 | .and => LetI (k.wrap (BitVec.ofInt k.bits a &&& BitVec.ofInt k.bits b).toNat) fun z => K (.it k z)
 | .or => LetI (k.wrap (BitVec.ofInt k.bits a ||| BitVec.ofInt k.bits b).toNat) fun z => K (.it k z)
 | .xor => LetI (k.wrap (BitVec.ofInt k.bits a ^^^ BitVec.ofInt k.bits b).toNat) fun z => K (.it k z)
 | .andNot => LetI (k.wrap (BitVec.ofInt k.bits a &&& ~~~BitVec.ofInt k.bits b).toNat) fun z => K (.it k z)
 | .shl => 0 ≤ b ∧ LetI (k.wrap (a * 2 ^ (min b.toNat k.bits))) fun z => K (.it k z)
 | .shr => 0 ≤ b ∧ LetI (a.fdiv (2 ^ (min b.toNat k.bits))) fun z => K (.it k z)
def binS (op : BinOp) (a b : List UInt8) (K : D → Prop) : Prop :=
 match op with
 | .add => a.length + b.length < 9223372036854775808 ∧ K (.st (a ++ b))
 | .eql => K (.bl (a == b))
 | .neq => K (.bl !(a == b))
 | .lss => K (.bl (Op.bytesLess a b))
 | .leq => K (.bl (Op.bytesLess a b || a == b))
 | .gtr => K (.bl !(Op.bytesLess a b || a == b))
 | .geq => K (.bl !Op.bytesLess a b)
 | _ => False
def eqD : D → D → Bool
 | .bl a, .bl b => a == b
 | .it _ a, .it _ b => a == b
 | .st a, .st b => a == b
 | _, _ => false
def eqDs : List D → List D → Bool
 | a :: x, b :: y => eqD a b && eqDs x y
 | _, _ => true
abbrev bytesD (l : List UInt8) : List (List D) := l.map fun b => [D.it .u8 b.toNat]
def binK (ti : Nat → Option Ty) (op : BinOp) (t : Nat) (x y : AV) (K : D → Prop) : Prop :=
 match x, y with
 | .d (.it k a), .d (.it l b) => match op with
  | .shl | .shr => binI op k a b K
  | _ => bif decide (k = l) then binI op k a b K else False
 | .d (.st a), .d (.st b) => binS op a b K
 | .d (.bl a), .d (.bl b) => match op, ti t with
  | .eql, some ⟨.bool, _, _, _, _, _⟩ => K (.bl (a == b))
  | .neq, some ⟨.bool, _, _, _, _, _⟩ => K (.bl (!(a == b)))
  | _, _ => False
 | .dg _ cs, .dg _ ds => match ti t with
  | some ty => match ty.cmp with
   | some z => bif ty.kd.agg && (likes z cs && likes z ds) then (match op with
    | .eql => K (.bl (eqDs cs ds))
    | .neq => K (.bl (!(eqDs cs ds)))
    | _ => False) else False
   | none => False
  | none => False
 | _, _ => False
def sliceOf : AV → Option (Nat × List (List D))
 | .d (.fs sz es) => some (sz, es)
 | .ts sz es _ => some (sz, es)
 | .tg sz es => some (sz, es)
 | .nl sz => some (sz, [])
 | _ => none
def cellsD : AV → Option (Nat × List D)
 | .d x => some (1, [x])
 | .dg k cs => some (k, cs)
 | .ts sz es _ => some (1, [.fs sz es])
 | .tg sz es => some (1, [.fs sz es])
 | .nl sz => some (1, [.fs sz []])
 | .ag k cs => match frzL cs with | some l => some (k, l) | none => none
 | _ => none
def cellsA : AV → Option (Nat × List AV)
 | .dg k cs => some (k, cs.map .d)
 | .ag k cs => some (k, cs)
 | .tup _ | .junk => none
 | v => some (1, [v])
def partsA (r : Operand → Option AV) : List (Nat × Operand) → Option (List (Nat × Nat × List AV))
 | [] => some []
 | (i, x) :: t => match (match r x with | some v => cellsA v | none => none), partsA r t with
  | some (k, l), some rest => some ((i, k, l) :: rest)
  | _, _ => none
def D.isFs : D → Bool
 | .fs .. => true
 | _ => false
def partsD (r : Operand → Option AV) : List (Nat × Operand) → Option (List (Nat × Nat × List D))
 | [] => some []
 | (i, x) :: t => match (match r x with | some v => cellsD v | none => none), partsD r t with
  | some (k, l), some rest => some ((i, k, l) :: rest)
  | _, _ => none
def fillD {α : Type} (place : Nat → Option (Nat × Nat)) : List α → List (Nat × Nat × List α) → Option (List α)
 | z, [] => some z
 | z, (i, k, l) :: t => match place i with
  | some (off, size) => bif Nat.beq k size then fillD place (z.take off ++ l ++ z.drop (off + k)) t else none
  | none => none
def placeOf (ti : Nat → Option Ty) (fs : List (Nat × Nat)) (i : Nat) : Option (Nat × Nat) :=
 match fs[i]? with
 | some (off, t) => match ti t with | some ty => some (off, ty.size) | none => none
 | none => none
def zeros : Nat → List D → List D
 | 0, _ => []
 | n + 1, z => z ++ zeros n z
def chunk (sz : Nat) : Nat → List D → List (List D)
 | 0, _ => []
 | n + 1, l => l.take sz :: chunk sz n (l.drop sz)
def Step (P : Program) (f : Nat) (vs : Array Value) (w : World) (Q : Ending → World → Prop) : Prop :=
 ((callFunc f vs).run P w = .ok (.enter f vs) w ∧ Calls P f vs w Q) ∨ ∃ v w', (callFunc f vs).run P w = .ok (.value v) w' ∧ Q (.returned v) w'
structure FnC (P : Program) (f : Nat) (args : List AV) (r : AV) : Prop where
 isP : r.isP = true
 run : ∀ (g : Gh) (w : World) (vs : Array Value), (∀ b o v, g.F b o = some v → w.cell? ⟨b, o, none⟩ = some v) → GOK g.F → vs.size = args.length →
  (∀ j (h : j < args.length), AVR g args[j] (vs.getD j undef)) →
  Step P f vs w fun e w' => ∃ v g', e = .returned v ∧ AVR g' r v ∧ (∀ b o v, g.F b o = some v → g'.F b o = some v) ∧
   (∀ b o v, g'.F b o = some v → g.F b o = some v ∨ w.heap.size ≤ b) ∧ (∀ b o v, g'.F b o = some v → w'.cell? ⟨b, o, none⟩ = some v) ∧
   w.heap.size ≤ w'.heap.size ∧ (∀ b, b < w.heap.size → w'.heap[b]? = w.heap[b]?) ∧ w'.os = w.os ∧ w'.tape = w.tape ∧ w'.output = w.output
structure CallP (P : Program) (f : Nat) (args : List AV) (K : AV → Prop) : Prop where
 run : ∃ r, FnC P f args r ∧ K r
def argsP (r : Operand → Option AV) : List Operand → Option (List AV)
 | [] => some []
 | x :: t => match (match r x with | some v => v.pure1 | none => none), argsP r t with
  | some v, some l => some (v :: l)
  | _, _ => none
def argsA (r : Operand → Option AV) : List Operand → Option (List AV)
 | [] => some []
 | x :: t => match r x, argsA r t with
  | some v, some l => some (v :: l)
  | _, _ => none
def AV.flat : AV → Bool
 | .fn .. | .ag .. | .tup .. => false
 | _ => true
def evVal (P : Program) (ti : Nat → Option Ty) (mem : List (Nat × Ob)) (r : Operand → Option AV) (o : Oper) (K : AV → Prop) : Prop :=
 match o.op with
 | .move x | .assign x => optK (r x) K
 | .pick c a b => match r c with
  | some (.d (.bl t)) => Spl t (optK (r a) K) (optK (r b) K)
  | _ => False
 | .nilCheck x => match r x with
  | some (.ptr n off) => K (.ptr n off)
  | some (.d (.fp k cs)) => K (.d (.fp k cs))
  | _ => False
 | .load t x => match ti t, r x with
  | some ty, some (.d (.fp k cs)) => bif Nat.ble ty.size k && Nat.blt 0 k then (bif Nat.ble 17 k then AtA (ldD ty cs) K else K (ldD ty cs)) else False
  | some ty, some (.ptr n off) => match look n mem with
   | some (.cells size c) => bif Nat.ble (off + ty.size) size && Nat.blt off size then (bif Nat.ble 16 size then AtA (ldA ty off c) K else K (ldA ty off c)) else False
   | _ => False
  | _, _ => False
 | .fieldAddr t x f => match ti t, r x with
  | some ⟨.struct fs, _, _, _, _, _⟩, some p => match placeOf ti fs f with
   | some (fo, fsz) => bif Nat.blt 0 fsz then (match p with
    | .ptr n off => K (.ptr n (off + fo))
    | .d (.fp k cs) => bif Nat.ble fo k then (bif Nat.ble 17 k then AtD (cs.drop fo) fun l => K (.d (.fp (k - fo) l)) else K (.d (.fp (k - fo) (cs.drop fo)))) else False
    | _ => False) else False
   | none => False
  | _, _ => False
 | .field t x f => match ti t, r x with
  | some ⟨.struct fs, _, _, _, _, _⟩, some v => match fs[f]? with
   | some (fo, ft) => match ti ft with
    | some fty => match v with
     | .dg k cs => bif Nat.ble (fo + fty.size) k && Nat.blt fo k then (bif Nat.ble 17 k then AtA (ldD fty (cs.drop fo)) K else K (ldD fty (cs.drop fo))) else False
     | .ag k cs => bif Nat.ble (fo + fty.size) k && Nat.blt fo k then (bif Nat.ble 17 k then AtA (ldA fty fo cs) K else K (ldA fty fo cs)) else False
     | _ => False
    | none => False
   | none => False
  | _, _ => False
 | .indexAddr t x i => match ti t, r x, r i with
  | some ⟨.slice e, _, _, _, _, _⟩, some v, some (.d (.it _ n)) => match sliceOf v, ti e with
   | some (sz, es), some ety => bif Nat.beq sz ety.size then (0 ≤ n ∧ n < es.length) ∧ ∀ c, es[n.toNat]? = some c → K (.d (.fp sz c)) else False
   | _, _ => False
  | some ⟨.arr len e, _, _, _, _, _⟩, some (.d (.fp k cs)), some (.d (.it _ n)) => match ti e with
   | some ety => bif Nat.ble (len * ety.size) k && Nat.blt 1 len then (0 ≤ n ∧ n < len) ∧ (bif Nat.ble 5 (len * ety.size) then AtD ((cs.drop (n.toNat * ety.size)).take ety.size) fun l => K (.d (.fp ety.size l)) else K (.d (.fp ety.size ((cs.drop (n.toNat * ety.size)).take ety.size)))) else False
   | none => False
  | _, _, _ => False
 | .index t x i => match ti t, r x, r i with
  | some ⟨.string, _, _, _, _, _⟩, some (.d (.st l)), some (.d (.it _ n)) => (0 ≤ n ∧ n < l.length) ∧ ∀ c, l[n.toNat]? = some c → K (.d (.it .u8 c.toNat))
  | some ⟨.arr len e, _, _, _, _, _⟩, some (.dg k cs), some (.d (.it _ n)) => match ti e with
   | some ety => bif Nat.ble (len * ety.size) k && Nat.blt 0 ety.size then (0 ≤ n ∧ n < len) ∧ (bif Nat.ble 5 k then AtA (ldD ety (cs.drop (n.toNat * ety.size))) K else K (ldD ety (cs.drop (n.toNat * ety.size)))) else False
   | none => False
  | _, _, _ => False
 | .slice t x lo hi mx => match ti t, r x with
  | some ⟨.string, _, _, _, _, _⟩, some (.d (.st l)) => match lo, hi, mx with
   | some lo, some hi, none => match r lo, r hi with
    | some (.d (.it .i64 i)), some (.d (.it .i64 j)) => (0 ≤ i ∧ i ≤ j ∧ j ≤ l.length) ∧ K (.d (.st ((l.take j.toNat).drop i.toNat)))
    | _, _ => False
   | some lo, none, none => match r lo with
    | some (.d (.it .i64 i)) => (0 ≤ i ∧ i ≤ l.length) ∧ K (.d (.st (l.drop i.toNat)))
    | _ => False
   | none, some hi, none => match r hi with
    | some (.d (.it .i64 j)) => (0 ≤ j ∧ j ≤ l.length) ∧ K (.d (.st (l.take j.toNat)))
    | _ => False
   | _, _, _ => False
  | some ⟨.slice e, _, _, _, _, _⟩, some v => match sliceOf v, ti e with
   | some (sz, es), some ety => bif Nat.beq sz ety.size then (match lo, hi, mx with
    | some lo, some hi, none => match r lo, r hi with
     | some (.d (.it .i64 i)), some (.d (.it .i64 j)) => (0 ≤ i ∧ i ≤ j ∧ j ≤ es.length) ∧ K (.d (.fs sz ((es.take j.toNat).drop i.toNat)))
     | _, _ => False
    | some lo, none, none => match r lo with
     | some (.d (.it .i64 i)) => (0 ≤ i ∧ i ≤ es.length) ∧ K (.d (.fs sz (es.drop i.toNat)))
     | _ => False
    | none, some hi, none => match r hi with
     | some (.d (.it .i64 j)) => (0 ≤ j ∧ j ≤ es.length) ∧ K (.d (.fs sz (es.take j.toNat)))
     | _ => False
    | none, some hi, some mx => match r hi, r mx with
     | some (.d (.it .i64 j)), some (.d (.it .i64 m)) => (0 ≤ j ∧ j ≤ es.length ∧ m = j) ∧ K (.tg sz (es.take j.toNat))
     | _, _ => False
    | _, _, _ => False) else False
   | _, _ => False
  | _, _ => False
 | .binOp op t x y _ => match r x, r y with
  | some u, some v => binK ti op t u v fun z => K (.d z)
  | _, _ => False
 | .unOp .not _ x => match r x with
  | some (.d (.bl b)) => K (.d (.bl !b))
  | _ => False
 | .unOp .neg _ x => match r x with
  | some (.d (.it k n)) => LetI (k.wrap (0 - n)) fun z => K (.d (.it k z))
  | _ => False
 | .convert s t x => match ti s, ti t, r x with
  | some ⟨.int _, _, _, _, _, _⟩, some ⟨.int k, _, _, _, _, _⟩, some (.d (.it _ n)) => LetI (k.wrap n) fun z => K (.d (.it k z))
  | some ⟨.string, _, _, _, _, _⟩, some ⟨.string, _, _, _, _, _⟩, some (.d (.st l)) => K (.d (.st l))
  | some ⟨.slice e, _, _, _, _, _⟩, some ⟨.string, _, _, _, _, _⟩, some v => match sliceOf v, ti e with
   | some (sz, es), some ⟨.int .u8, 1, _, _, _, _⟩ => bif Nat.beq sz 1 then ∃ l, es = bytesD l ∧ K (.d (.st l)) else False
   | _, _ => False
  | some ⟨.string, _, _, _, _, _⟩, some ⟨.slice e, _, _, _, _, _⟩, some (.d (.st l)) => match ti e with
   | some ⟨.int .u8, 1, _, _, _, _⟩ => K (.d (.fs 1 (bytesD l)))
   | _ => False
  | _, _, _ => False
 | .extract x i => match r x with
  | some (.tup vs) => optK vs[i]? K
  | _ => False
 | .build t parts => match ti t, partsD r parts.toList, partsA r parts.toList with
  | some ty, some ps, some pa => bif Nat.beq ty.zero.length ty.size && Nat.blt 0 ty.size then (match ty.kd with
   | .struct _ => bif ty.pl.all (fun p => Nat.ble (p.1 + p.2) ty.size) then (bif ty.zero.any D.isFs then (match fillD (fun i => ty.pl[i]?) (ty.zero.map toA) pa with
     | some l => K (.ag ty.size l)
     | none => False) else (match fillD (fun i => ty.pl[i]?) ty.zero ps with
     | some l => K (.dg ty.size l)
     | none => False)) else False
   | .arr _ e => match ti e with
    | some ety => match fillD (fun i => bif Nat.ble (i * ety.size + ety.size) ty.size then some (i * ety.size, ety.size) else none) ty.zero ps with
     | some l => bif ps.all (fun p => Nat.ble (p.1 * ety.size + ety.size) ty.size) then K (.dg ty.size l) else False
     | none => False
    | none => False
   | _ => False) else False
  | some ty, none, some pa => bif Nat.beq ty.zero.length ty.size && Nat.blt 0 ty.size then (match ty.kd with
   | .struct _ => bif ty.pl.all (fun p => Nat.ble (p.1 + p.2) ty.size) then (match fillD (fun i => ty.pl[i]?) (ty.zero.map toA) pa with
     | some l => K (.ag ty.size l)
     | none => False) else False
   | _ => False) else False
  | _, _, _ => False
 | .buildSlice t n parts => match ti t, partsD r parts.toList with
  | some ⟨.slice e, _, _, _, _, _⟩, some ps => match ti e with
   | some ety => bif Nat.beq ety.zero.length ety.size && Nat.blt 0 ety.size && (Nat.ble (n * ety.size) 16777216 && ps.all (fun p => Nat.blt p.1 n)) then (match fillD (fun i => bif Nat.blt i n then some (i * ety.size, ety.size) else none) (zeros n ety.zero) ps with
    | some l => K (.tg ety.size (chunk ety.size n l))
    | none => False) else False
   | none => False
  | _, _ => False
 | .call c => match c.callee, c.args.toList with
  | .builtin .len, [x] => match r x, c.argTypes[0]?.bind ti with
   | some (.d (.st l)), some ⟨.string, _, _, _, _, _⟩ => K (.d (.it .i64 l.length))
   | some v, some ⟨.slice _, _, _, _, _, _⟩ => match sliceOf v with
    | some (_, es) => K (.d (.it .i64 es.length))
    | none => False
   | _, some ⟨.arr n _, _, _, _, _, _⟩ => K (.d (.it .i64 n))
   | _, _ => False
  | .builtin .min, [x, y] => match r x, r y with
   | some (.d (.it k a)), some (.d (.it _ b)) => LetI (if b < a then b else a) fun z => K (.d (.it k z))
   | _, _ => False
  | .builtin .max, [x, y] => match r x, r y with
   | some (.d (.it k a)), some (.d (.it _ b)) => LetI (if b > a then b else a) fun z => K (.d (.it k z))
   | _, _ => False
  | .value (.func f), l => match argsP r l with
   | some args => CallP P f args K
   | none => False
  | _, _ => False
 | _ => False
end Go.Sy
namespace Go.Sy
theorem getD_range (f : Nat → Value) (n j : Nat) (h : j < n) : (((List.range n).map f).toArray).getD j undef = f j := by
 simp [Array.getD, h]
theorem run_loadVar {P : Program} {t : Nat} {ty : Ty} {u : TypeDesc} {i : TypeInfo} (h : TyOK P t ty u i) {w : World} {b off : Nat} {f : Nat → Value}
  (hc : ∀ j, j < ty.size → w.cell? ⟨b, off + j, none⟩ = some (f j)) (h0 : w.cell? ⟨b, off, none⟩ = some (f 0)) :
  (loadVar t ⟨b, off, none⟩).run P w = .ok (if ty.kd.agg then .agg ((List.range ty.size).map f).toArray else f 0) w := by
 simp only [loadVar, Sem.run_bind, run_isAgg' h.und, Result.andThen_ok, h.kd]
 cases ha : ty.kd.agg with
 | true =>
  simp only [if_true, Sem.run_bind, run_sizeOf' h.info, Result.andThen_ok, h.size]
  rw [run_loadCells _ _ _ f (fun j hj => by rw [addr_add]; exact hc j hj)]
  rfl
 | false =>
  simp only [Bool.false_eq_true, if_false, run_load, h0]
theorem cs_getD {cs : List D} {j : Nat} (h : j < cs.length) (x : D) : cs.getD j x = cs[j] := by
 simp [List.getD, h]
def At (F : Nat → Nat → Option Value) (b off k : Nat) (cs : List D) (f : Nat → Value) : Prop :=
 cs.length = k ∧ (∀ j, j < k → F b (off + j) = some (f j)) ∧ ∀ j (h : j < cs.length), DR F cs[j] (f j)
theorem ldD_ok {g : Gh} {ty : Ty} {cs : List D} {f : Nat → Value} (hr : ∀ j (h : j < cs.length), DR g.F cs[j] (f j)) (hs : ty.size ≤ cs.length) (h0 : 0 < cs.length) :
  AVR g (ldD ty cs) (if ty.kd.agg then .agg ((List.range ty.size).map f).toArray else f 0) := by
 unfold ldD
 cases ty.kd.agg with
 | true =>
  simp only [cond_true, if_true]
  refine .dg _ _ _ (by simp) (by simp [hs]) fun j hj => ?_
  simp only [List.length_take] at hj
  rw [getD_range f _ _ (by omega)]
  simpa using hr j (by omega)
 | false =>
  simp only [cond_false, Bool.false_eq_true, if_false]
  rw [cs_getD h0]
  exact .d _ _ (hr 0 h0)
theorem allD_ok : ∀ {l : List AV} {ds : List D}, allD l = some ds → l = ds.map AV.d
 | [], ds, h => by obtain rfl := Option.some.inj h; rfl
 | v :: t, ds, h => by
  cases v <;> simp only [allD] at h <;> try cases h
  split at h
  ·rename_i l hl; obtain rfl := Option.some.inj h
   rw [allD_ok hl]; rfl
  ·cases h
theorem mkAg_ok {g : Gh} {k : Nat} {cs : List AV} {vs : Array Value} (h1 : vs.size = k) (h2 : cs.length = k) (h3 : ∀ j (h : j < cs.length), cs[j].sc = true)
  (h : ∀ j (h : j < cs.length), AVR g cs[j] (vs.getD j undef)) : AVR g (mkAg k cs) (.agg vs) := by
 unfold mkAg
 split
 ·rename_i l hl
  obtain rfl := allD_ok hl
  refine .dg _ _ _ h1 (by simpa using h2) fun j hj => ?_
  have := h j (by simpa using hj)
  simp only [List.getElem_map] at this
  cases this; assumption
 ·exact .ag _ _ _ h1 h2 h3 h
theorem ldA_ok {g : Gh} {ty : Ty} {c : List AV} {off : Nat} {f : Nat → Value} (h3 : ∀ j (h : j < c.length), c[j].sc = true) (hr : ∀ j (h : j < c.length), AVR g c[j] (f j)) (hs : off + ty.size ≤ c.length) (h0 : off < c.length) :
  AVR g (ldA ty off c) (if ty.kd.agg then .agg ((List.range ty.size).map fun j => f (off + j)).toArray else f (off + 0)) := by
 unfold ldA
 cases ty.kd.agg with
 | true =>
  simp only [cond_true, if_true]
  refine mkAg_ok (by simp) (by simp; omega) (fun j hj => ?_) fun j hj => ?_
  ·simp only [List.length_take, List.length_drop] at hj
   simpa using h3 (off + j) (by omega)
  ·simp only [List.length_take, List.length_drop] at hj
   rw [getD_range (fun j => f (off + j)) _ _ (by omega)]
   simpa using hr (off + j) (by omega)
 | false =>
  simp only [cond_false, Bool.false_eq_true, if_false]
  have : c.getD off .junk = c[off] := by simp [List.getD, h0]
  rw [this]
  exact hr off h0
theorem all_getElem {α : Type} {l : List α} {p : α → Bool} (h : l.all p = true) (j : Nat) (hj : j < l.length) : p l[j] = true :=
 List.all_eq_true.1 h _ (List.getElem_mem hj)
theorem mkAg_lt {k m : Nat} {cs : List AV} (h : ∀ x ∈ cs, x.lt1 m = true) : (mkAg k cs).lt m = true := by
 unfold mkAg
 split
 ·rfl
 ·simp only [AV.lt, AV.lt2, List.all_eq_true]; exact h
theorem ldA_lt {ty : Ty} {off m : Nat} {c : List AV} (h : ∀ x ∈ c, x.lt1 m = true) : (ldA ty off c).lt m = true := by
 unfold ldA
 cases ty.kd.agg with
 | true => exact mkAg_lt fun x hx => h x (List.mem_of_mem_drop (List.mem_of_mem_take hx))
 | false =>
  simp only [cond_false]
  by_cases h0 : off < c.length
  ·have : c.getD off .junk = c[off] := by simp [List.getD, h0]
   rw [this]; exact AV.lt_of_lt1 (h _ (List.getElem_mem _))
  ·have : c.getD off .junk = .junk := by simp [List.getD, Nat.le_of_not_lt h0]
   rw [this]; rfl
theorem ldD_lt {ty : Ty} {cs : List D} {m : Nat} : (ldD ty cs).lt m = true := by unfold ldD; cases ty.kd.agg <;> rfl
section
variable {P : Program} {ti : Nat → Option Ty} {mem : List (Nat × Ob)} {nx : Nat} {r : Operand → Option AV} {o : Oper} {K : AV → Prop}
theorem does_move {x : Operand} {v : AV} (hop : o.op = .move x ∨ o.op = .assign x) (hr : r x = some v) (hl : v.lt nx = true) : Does P mem nx r o v := by
 refine .of_run hl fun κ g a w hi ho => ⟨a.eval x, ?_, ho x ?_ v hr⟩
 ·rcases hop with h | h <;> simp [execOp, h]
 ·rcases hop with h | h <;> simp [h, Op.operands]
theorem does_pick {c x y : Operand} {t : Bool} {v : AV} (hop : o.op = .pick c x y) (hc : r c = some (.d (.bl t))) (hr : r (if t then x else y) = some v) (hl : v.lt nx = true) : Does P mem nx r o v := by
 refine .of_run hl fun κ g a w hi ho => ⟨a.eval (if t then x else y), ?_, ?_⟩
 ·have h1 := ho c (by simp [hop, Op.operands]) _ hc
  have h2 : a.eval c = .bool t := by generalize a.eval c = q at h1; cases h1 with | d _ _ h => cases h; rfl
  cases t <;> simp [execOp, hop, h2, asBool]
 ·refine ho _ ?_ _ hr
  cases t <;> simp [hop, Op.operands]
theorem does_nilCheck {x : Operand} {v : AV} (hop : o.op = .nilCheck x) (hr : r x = some v) (hl : v.lt nx = true) (hv : (∃ n off, v = .ptr n off) ∨ ∃ k cs, v = .d (.fp k cs)) : Does P mem nx r o v := by
 refine .of_run hl fun κ g a w hi ho => ⟨a.eval x, ?_, ho x (by simp [hop, Op.operands]) v hr⟩
 have h1 := ho x (by simp [hop, Op.operands]) _ hr
 have h2 : ∃ ad, a.eval x = .pointer (some ad) := by
  rcases hv with ⟨n, off, rfl⟩ | ⟨k, cs, rfl⟩
  ·generalize a.eval x = q at h1; cases h1; exact ⟨_, rfl⟩
  ·generalize a.eval x = q at h1; cases h1 with | d _ _ h => cases h; exact ⟨_, rfl⟩
 obtain ⟨ad, h2⟩ := h2
 simp [execOp, hop, h2]
theorem does_load_fp {t k : Nat} {x : Operand} {cs : List D} {ty : Ty} (hop : o.op = .load t x) (ht : tyOf P t = some ty) (hr : r x = some (.d (.fp k cs))) (hs : ty.size ≤ k) (h0 : 0 < k) : Does P mem nx r o (ldD ty cs) := by
 obtain ⟨u, i, ht⟩ := tyOf_ok ht
 refine .of_run (by unfold ldD; cases ty.kd.agg <;> rfl) fun κ g a w hi ho => ?_
 have h1 := ho x (by simp [hop, Op.operands]) _ hr
 cases h1 with | d _ _ h => ?_
 generalize ha : a.eval x = q at h
 cases h with | fp _ _ b off f hl hF hd => ?_
 refine ⟨_, ?_, ldD_ok (f := f) hd (by omega) (by omega)⟩
 simp only [execOp, hop, ha, Instr.loadAt, Instr.sureAddr, Sem.run_bind, Sem.run_pure, Result.andThen_ok]
 rw [run_loadVar ht (f := f) (fun j hj => hi.frz _ _ _ (hF j (by omega))) (hi.frz _ _ _ (hF 0 h0))]
 rfl
theorem does_load_ptr {t n off size : Nat} {x : Operand} {c : List AV} {ty : Ty} (hop : o.op = .load t x) (ht : tyOf P t = some ty) (hr : r x = some (.ptr n off)) (hm : look n mem = some (.cells size c)) (hs : off + ty.size ≤ size) (h0 : off < size) (hc : ∀ x ∈ c, x.lt1 nx = true) : Does P mem nx r o (ldA ty off c) := by
 obtain ⟨u, i, ht⟩ := tyOf_ok ht
 refine .of_run (ldA_lt hc) fun κ g a w hi ho => ?_
 have h1 := ho x (by simp [hop, Op.operands]) _ hr
 generalize ha : a.eval x = q at h1
 cases h1 with | ptr => ?_
 obtain ⟨arr, T, e1, e2, e3, e4, e5, e6⟩ := hi.obs n _ hm
 have hcell : ∀ j, j < size → w.cell? ⟨g.blk n, j, none⟩ = some (arr.getD j undef) := fun j hj => by
  simp [World.cell?, e1, Array.getD, show j < arr.size by omega]
 refine ⟨_, ?_, ldA_ok (f := fun j => arr.getD j undef) e4 e5 (by omega) (by omega)⟩
 simp only [execOp, hop, ha, Instr.loadAt, Instr.sureAddr, Sem.run_bind, Sem.run_pure, Result.andThen_ok]
 rw [run_loadVar ht (f := fun j => arr.getD (off + j) undef) (fun j hj => hcell _ (by omega)) (hcell _ h0)]
 rfl
theorem does_fieldAddr {t f fo fsz : Nat} {x : Operand} {fs : List (Nat × Nat)} {ty : Ty} {v p : AV} (hti : TiOK P ti) (hop : o.op = .fieldAddr t x f) (ht : tyOf P t = some ty) (hk : ty.kd = .struct fs) (hf : placeOf ti fs f = some (fo, fsz)) (h0 : 0 < fsz)
  (hr : r x = some p) (hv : (∃ n off, p = .ptr n off ∧ v = .ptr n (off + fo) ∧ n < nx) ∨ (∃ k cs, p = .d (.fp k cs) ∧ v = .d (.fp (k - fo) (cs.drop fo)) ∧ fo ≤ k) ∨ ∃ sz n k off, p = .vq sz n k off ∧ v = .vq sz n k (off + fo) ∧ n < nx) : Does P mem nx r o v := by
 obtain ⟨u, i, ht⟩ := tyOf_ok ht
 unfold placeOf at hf
 split at hf
 case h_2 => cases hf
 rename_i q off' ft hfs
 split at hf
 case h_2 => cases hf
 rename_i fty hfty
 simp only [Option.some.injEq, Prod.mk.injEq] at hf
 obtain ⟨rfl, rfl⟩ := hf
 obtain ⟨uf, fi, hft⟩ := tyOf_ok (hti _ _ hfty)
 have hkd := ht.kd
 rw [hk] at hkd
 have hu : ∃ fields : Array Field, u = .struct fields ∧ fields.toList.map (fun f => (f.offset, f.type)) = fs := by
  cases u <;> simp only [kdOf] at hkd <;> first | (cases hkd; done) | skip
  rename_i fields
  exact ⟨fields, rfl, by injection hkd⟩
 obtain ⟨fields, rfl, hfl⟩ := hu
 have hfield : ∃ fd : Field, fields[f]? = some fd ∧ fd.offset = off' ∧ fd.type = ft := by
  rw [← hfl, List.getElem?_map] at hfs
  cases hq : fields.toList[f]? with
  | none => rw [hq] at hfs; cases hfs
  | some fd =>
   rw [hq] at hfs
   simp only [Option.map_some, Option.some.injEq, Prod.mk.injEq] at hfs
   exact ⟨fd, by simpa using hq, hfs.1, hfs.2⟩
 obtain ⟨fd, hfd, rfl, rfl⟩ := hfield
 have hlt : v.lt nx = true := by
  rcases hv with ⟨n, off, _, rfl, hn⟩ | ⟨k, cs, _, rfl, _⟩ | ⟨sz, n, k, off, _, rfl, hn⟩
  ·simp [AV.lt, AV.lt2, AV.lt1, AV.lt0, hn]
  ·rfl
  ·simp [AV.lt, AV.lt2, AV.lt1, AV.lt0, hn]
 refine .of_run hlt fun κ g a w hi ho => ?_
 have h1 := ho x (by simp [hop, Op.operands]) _ hr
 generalize ha : a.eval x = q at h1
 have main : ∀ b off, q = .pointer (some ⟨b, off, none⟩) → (execOp a.eval o).run P w = .ok (.value (.pointer (some ⟨b, off + fd.offset, none⟩))) w := by
  rintro b off rfl
  simp only [execOp, hop, ha, Instr.fieldAt, Instr.sureAddr, Sem.run_bind, Sem.run_pure, Result.andThen_ok, run_underlying ht.und, hfd, fieldPlace, run_sizeOf' hft.info, Sem.run_ite, hft.size, addr_add]
  rw [if_neg (by omega)]
  rfl
 rcases hv with ⟨n, off, rfl, rfl, hn⟩ | ⟨k, cs, rfl, rfl, hle⟩ | ⟨sz, n, k, off, rfl, rfl, hn⟩
 ·cases h1 with | ptr => ?_
  exact ⟨_, main _ _ rfl, .ptr _ _⟩
 ·cases h1 with | d _ _ h => ?_
  cases h with | fp _ _ b off f hl hF hd => ?_
  refine ⟨_, main _ _ rfl, .d _ _ (.fp _ _ _ _ (fun j => f (fd.offset + j)) (by simp [hl]) (fun j hj => ?_) fun j hj => ?_)⟩
  ·rw [Nat.add_assoc]; exact hF _ (by omega)
  ·simp only [List.length_drop] at hj
   simpa using hd (fd.offset + j) (by omega)
 ·cases h1 with | vq _ _ _ _ hh => ?_
  exact ⟨_, main _ _ rfl, by rw [Nat.add_assoc]; exact .vq _ _ _ _ hh⟩
end
end Go.Sy
namespace Go.Sy
theorem Inv.grow {κ : Ctx} {g g' : Gh} {mem : List (Nat × Ob)} {nx : Nat} {w w' : World} (hi : Inv κ g mem w) (hmem : ∀ n ob, look n mem = some ob → n < nx ∧ ob.lt nx = true) (he : Ext nx g g')
  (hsz : w.heap.size ≤ w'.heap.size) (hb : ∀ b, b < w.heap.size → w'.heap[b]? = w.heap[b]?) (hnew : ∀ b o v, g'.F b o = some v → g.F b o = some v ∨ w.heap.size ≤ b)
  (hfrz : ∀ b o v, g'.F b o = some v → w'.cell? ⟨b, o, none⟩ = some v) (h1 : w'.os = w.os) (h2 : w'.tape = w.tape) (h3 : w'.output = w.output) : Inv κ g' mem w' := by
 have lt_of : ∀ {b : Nat} {x : Obj}, w.heap[b]? = some x → b < w.heap.size := fun h => by
  rcases Nat.lt_or_ge _ w.heap.size with h' | h'
  ·exact h'
  ·rw [Array.getElem?_eq_none h'] at h; cases h
 have none_of : ∀ b o, b < w.heap.size → g.F b o = none → g'.F b o = none := fun b o hb hn => by
  cases hq : g'.F b o with
  | none => rfl
  | some v =>
   rcases hnew _ _ _ hq with h | h
   ·rw [hn] at h; cases h
   ·omega
 have on : ∀ n, On g' mem n → On g mem n := fun n h => by
  unfold On at *
  cases hl : look n mem with
  | none => rw [hl] at h; exact h
  | some ob =>
   rw [hl] at h
   cases ob with
   | cells => trivial
   | tail => exact (he.has n (hmem n _ hl).1) ▸ h
   | vec => exact (he.has n (hmem n _ hl).1) ▸ h
   | tag => exact h
   | frame => exact h
   | loop => trivial
   | mp => exact (he.has n (hmem n _ hl).1) ▸ h
 have bl : ∀ n, On g mem n → g'.blk n = g.blk n := fun n h => by
  unfold On at h
  cases hl : look n mem with
  | none => rw [hl] at h; exact h.elim
  | some ob => exact he.blk n (hmem n _ hl).1
 refine ⟨hfrz, fun n ob hn => ?_, fun n m hnm h h' => ?_, Nat.le_trans hi.size hsz, fun b hb' hm => ?_, fun n h => ?_, fun b o v h => he.F _ _ _ (hi.f0 _ _ _ h), fun b o v h => ?_, h1.trans hi.os, h2.trans hi.tape, h3.trans hi.output, fun D hD => by rw [hb D (lt_of (hi.dfr D hD))]; exact hi.dfr D hD⟩
 ·obtain ⟨hn', hl⟩ := hmem n ob hn
  have := hi.obs n ob hn
  cases ob with
  | cells size c =>
   obtain ⟨arr, T, e1, e2, e3, e4, e5, e6⟩ := this
   have hlt := lt_of e1
   refine ⟨arr, T, ?_, e2, e3, e4, fun j hj => (e5 j hj).ext1 he ?_, fun o => ?_⟩
   ·rw [he.blk n hn', hb _ hlt]; exact e1
   ·simp only [Ob.lt, List.all_eq_true] at hl; exact hl _ (List.getElem_mem hj)
   ·rw [he.blk n hn']; exact none_of _ _ hlt (e6 o)
  | tag m t =>
   obtain ⟨arr, fz, e⟩ := this
   simp only [Ob.lt, Nat.blt_eq] at hl
   exact ⟨arr, fz, by rw [he.blk m hl, hb _ (lt_of e)]; exact e⟩
  | vec t sz es f' => exact VecOK.mono this he.F (he.blk n hn') (he.hi n hn') (he.cp n hn') (he.has n hn') (fun hh => by obtain ⟨arr, e1, _⟩ := this.2.2 hh; exact hb _ (lt_of e1)) (fun hh o ho => by obtain ⟨arr, e1, _⟩ := this.2.2 hh; exact none_of _ _ (lt_of e1) ho)
  | tail =>
   refine ⟨fun hh => ?_, fun hb hh => by rw [he.hi n hn']; exact this.2 hb ((he.has n hn').symm.trans hh)⟩
   obtain ⟨arr, T, e1, e2, e3, e4⟩ := this.1 ((he.has n hn').symm.trans hh)
   have hlt := lt_of e1
   refine ⟨arr, T, ?_, ?_, ?_, fun o ho => ?_⟩
   ·rw [he.blk n hn', hb _ hlt]; exact e1
   ·rw [he.cp n hn']; exact e2
   ·rw [he.cp n hn', he.hi n hn']; exact e3
   ·rw [he.hi n hn'] at ho
    rw [he.blk n hn']; exact none_of _ _ hlt (e4 o ho)
  | frame sz l =>
   simp only [Ob.lt, List.all_eq_true] at hl
   exact ⟨this.1, fun s v hs => (this.2 s v hs).ext he (hl _ (look_mem hs))⟩
  | loop k ps asg body st pd =>
   obtain ⟨eb, fn, D, e⟩ := this
   exact ⟨(he.blk n hn').trans eb, fn, D, by rw [he.blk n hn', hb _ (lt_of e)]; exact e⟩
  | mp b ag tp l => exact MapAt.mono this he.F (he.blk n hn') (he.hi n hn') (he.cp n hn') (he.has n hn') (fun hh => by obtain ⟨arr, e1, _⟩ := this.2.2 hh; exact hb _ (lt_of e1)) (fun hh o ho => by obtain ⟨arr, e1, _⟩ := this.2.2 hh; exact none_of _ _ (lt_of e1) ho)
 ·rw [bl n (on n h), bl m (on m h')]; exact hi.inj n m hnm (on n h) (on m h')
 ·rw [hb b (by have := hi.size; omega)]; exact hi.pres b hb' hm
 ·rw [bl n (on n h)]; exact hi.own n (on n h)
 ·rcases hnew _ _ _ h with h | h
  ·exact hi.fnew _ _ _ h
  ·exact .inr (.inl (Nat.le_trans hi.size h))
theorem Inv.newFrozen {κ : Ctx} {g : Gh} {mem : List (Nat × Ob)} {nx : Nat} {w w' : World} {arr : Array Value} {T : TypeId} {fz : Nat × Nat} (hi : Inv κ g mem w) (hmem : ∀ n ob, look n mem = some ob → n < nx ∧ ob.lt nx = true)
  (hw : w'.heap = w.heap.push (.cells arr T fz)) (h1 : w'.os = w.os) (h2 : w'.tape = w.tape) (h3 : w'.output = w.output) (n : Nat) (hn : n ≤ arr.size) :
  ∃ g', Ext nx g g' ∧ Inv κ g' mem w' ∧ ∀ o, o < n → g'.F w.heap.size o = some (arr.getD o undef) := by
 have hold : ∀ b o v, g.F b o = some v → b < w.heap.size := fun b o v h => World.block_lt_of_cell? w ⟨b, o, none⟩ (hi.frz b o v h)
 refine ⟨{ g with F := fun b o => if b = w.heap.size then (if o < n then some (arr.getD o undef) else none) else g.F b o }, ⟨fun b o v h => ?_, fun _ _ => rfl, fun _ _ => rfl, fun _ _ => rfl, fun _ _ => rfl⟩, ?_, fun o ho => ?_⟩
 ·show (if b = w.heap.size then _ else _) = _
  rw [if_neg (by have := hold _ _ _ h; omega)]; exact h
 ·refine hi.grow hmem ⟨fun b o v h => ?_, fun _ _ => rfl, fun _ _ => rfl, fun _ _ => rfl, fun _ _ => rfl⟩ (by rw [hw]; simp) (fun b hb => ?_) (fun b o v h => ?_) (fun b o v h => ?_) h1 h2 h3
  ·show (if b = w.heap.size then _ else _) = _
   rw [if_neg (by have := hold _ _ _ h; omega)]; exact h
  ·rw [hw, Array.getElem?_push, if_neg (by omega)]
  ·have h' : (if b = w.heap.size then (if o < n then some (arr.getD o undef) else none) else g.F b o) = some v := h
   by_cases hb : b = w.heap.size
   ·exact .inr (by omega)
   ·rw [if_neg hb] at h'; exact .inl h'
  ·have h' : (if b = w.heap.size then (if o < n then some (arr.getD o undef) else none) else g.F b o) = some v := h
   by_cases hb : b = w.heap.size
   ·rw [if_pos hb] at h'
    by_cases ho : o < n
    ·rw [if_pos ho] at h'
     obtain rfl := Option.some.inj h'
     subst hb
     simp [World.cell?, hw, Array.getD, show o < arr.size by omega]
    ·rw [if_neg ho] at h'; cases h'
   ·rw [if_neg hb] at h'
    have hc := hi.frz _ _ _ h'
    have hlt := hold _ _ _ h'
    simp only [World.cell?] at hc ⊢
    rw [hw, Array.getElem?_push, if_neg (by omega)]; exact hc
 ·show (if w.heap.size = w.heap.size then _ else _) = _
  rw [if_pos rfl, if_pos ho]
section
variable {P : Program} {ti : Nat → Option Ty} {mem : List (Nat × Ob)} {nx : Nat} {r : Operand → Option AV} {o : Oper} {K : AV → Prop}
theorem fields_of {t : Nat} {ty : Ty} {u : TypeDesc} {i : TypeInfo} {fs : List (Nat × Nat)} (ht : TyOK P t ty u i) (hk : ty.kd = .struct fs) : ∃ fields : Array Field, u = .struct fields ∧ fields.toList.map (fun f => (f.offset, f.type)) = fs := by
 have hkd := ht.kd
 rw [hk] at hkd
 cases u <;> simp only [kdOf] at hkd <;> first | (cases hkd; done) | skip
 rename_i fields
 exact ⟨fields, rfl, by injection hkd⟩
theorem field_of {fields : Array Field} {fs : List (Nat × Nat)} (hfl : fields.toList.map (fun f => (f.offset, f.type)) = fs) {f fo ft : Nat} (hfs : fs[f]? = some (fo, ft)) : ∃ fd : Field, fields[f]? = some fd ∧ fd.offset = fo ∧ fd.type = ft := by
 rw [← hfl, List.getElem?_map] at hfs
 cases hq : fields.toList[f]? with
 | none => rw [hq] at hfs; cases hfs
 | some fd =>
  rw [hq] at hfs
  simp only [Option.map_some, Option.some.injEq, Prod.mk.injEq] at hfs
  exact ⟨fd, by simpa using hq, hfs.1, hfs.2⟩
theorem slice_of {t : Nat} {ty : Ty} {u : TypeDesc} {i : TypeInfo} {e : Nat} (ht : TyOK P t ty u i) (hk : ty.kd = .slice e) : u = .slice e := by
 have hkd := ht.kd
 rw [hk] at hkd
 cases u <;> simp only [kdOf] at hkd <;> first | (cases hkd; done) | skip
 cases hkd; rfl
theorem arr_of {t : Nat} {ty : Ty} {u : TypeDesc} {i : TypeInfo} {n e : Nat} (ht : TyOK P t ty u i) (hk : ty.kd = .arr n e) : u = .array n e := by
 have hkd := ht.kd
 rw [hk] at hkd
 cases u <;> simp only [kdOf] at hkd <;> first | (cases hkd; done) | skip
 cases hkd; rfl
theorem string_of {t : Nat} {ty : Ty} {u : TypeDesc} {i : TypeInfo} (ht : TyOK P t ty u i) (hk : ty.kd = .string) : u = .string := by
 have hkd := ht.kd
 rw [hk] at hkd
 cases u <;> simp only [kdOf] at hkd <;> first | (cases hkd; done) | rfl
theorem int_of {t : Nat} {ty : Ty} {u : TypeDesc} {i : TypeInfo} {k : IntKind} (ht : TyOK P t ty u i) (hk : ty.kd = .int k) : u = .int k := by
 have hkd := ht.kd
 rw [hk] at hkd
 cases u <;> simp only [kdOf] at hkd <;> first | (cases hkd; done) | skip
 cases hkd; rfl
theorem bool_of {t : Nat} {ty : Ty} {u : TypeDesc} {i : TypeInfo} (ht : TyOK P t ty u i) (hk : ty.kd = .bool) : u = .bool := by
 have hkd := ht.kd
 rw [hk] at hkd
 cases u <;> simp only [kdOf] at hkd <;> first | (cases hkd; done) | rfl
theorem run_part {t : Nat} {ty : Ty} {u : TypeDesc} {i : TypeInfo} (ht : TyOK P t ty u i) (vs : Array Value) (off : Nat) (h : off + ty.size ≤ vs.size) (h0 : off < vs.size) (w : World) :
  (part t vs off).run P w = .ok (if ty.kd.agg then .agg ((List.range ty.size).map fun j => vs.getD (off + j) undef).toArray else vs.getD (off + 0) undef) w := by
 simp only [part, Sem.run_bind, run_isAgg' ht.und, Result.andThen_ok, ht.kd]
 cases ty.kd.agg with
 | true =>
  simp only [if_true, Sem.run_bind, run_sizeOf' ht.info, Result.andThen_ok, ht.size, Sem.run_pure]
  congr 2
  apply Array.ext
  ·simp; omega
  ·intro j h1 h2
   simp only [Array.size_extract] at h1
   simp [Array.getD, show off + j < vs.size by omega]
 | false =>
  simp only [Bool.false_eq_true, if_false, Nat.add_zero]
  simp [h0, Array.getD]
theorem does_field_d {t f fo ft k : Nat} {x : Operand} {fs : List (Nat × Nat)} {ty fty : Ty} {cs : List D} (hti : TiOK P ti) (hop : o.op = .field t x f) (ht : tyOf P t = some ty) (hk : ty.kd = .struct fs) (hf : fs[f]? = some (fo, ft)) (hft : ti ft = some fty)
  (hr : r x = some (.dg k cs)) (hs : fo + fty.size ≤ k) (h0 : fo < k) : Does P mem nx r o (ldD fty (cs.drop fo)) := by
 obtain ⟨u, i, ht⟩ := tyOf_ok ht
 obtain ⟨uf, fi, hft⟩ := tyOf_ok (hti _ _ hft)
 obtain ⟨fields, rfl, hfl⟩ := fields_of ht hk
 obtain ⟨fd, hfd, rfl, rfl⟩ := field_of hfl hf
 refine .of_run ldD_lt fun κ g a w hi ho => ?_
 have h1 := ho x (by simp [hop, Op.operands]) _ hr
 generalize ha : a.eval x = q at h1
 cases h1 with | dg _ _ vs e1 e2 e3 => ?_
 have hrel : ∀ j (h : j < (cs.drop fd.offset).length), DR g.F (cs.drop fd.offset)[j] (vs.getD (fd.offset + j) undef) := fun j hj => by
  simp only [List.length_drop] at hj
  simpa using e3 (fd.offset + j) (by omega)
 refine ⟨_, ?_, ldD_ok (f := fun j => vs.getD (fd.offset + j) undef) hrel (by simp; omega) (by simp; omega)⟩
 simp only [execOp, hop, ha, Instr.field, asAgg, Sem.run_bind, Sem.run_pure, Result.andThen_ok, run_underlying ht.und, hfd]
 rw [run_part hft vs fd.offset (by omega) (by omega)]
 rfl
theorem does_field_a {t f fo ft k : Nat} {x : Operand} {fs : List (Nat × Nat)} {ty fty : Ty} {cs : List AV} (hti : TiOK P ti) (hop : o.op = .field t x f) (ht : tyOf P t = some ty) (hk : ty.kd = .struct fs) (hf : fs[f]? = some (fo, ft)) (hft : ti ft = some fty)
  (hr : r x = some (.ag k cs)) (hl : (AV.ag k cs).lt nx = true) (hs : fo + fty.size ≤ k) (h0 : fo < k) : Does P mem nx r o (ldA fty fo cs) := by
 obtain ⟨u, i, ht⟩ := tyOf_ok ht
 obtain ⟨uf, fi, hft⟩ := tyOf_ok (hti _ _ hft)
 obtain ⟨fields, rfl, hfl⟩ := fields_of ht hk
 obtain ⟨fd, hfd, rfl, rfl⟩ := field_of hfl hf
 simp only [AV.lt, AV.lt2, List.all_eq_true] at hl
 refine .of_run (ldA_lt hl) fun κ g a w hi ho => ?_
 have h1 := ho x (by simp [hop, Op.operands]) _ hr
 generalize ha : a.eval x = q at h1
 cases h1 with | ag _ _ vs e1 e2 e3 e4 => ?_
 refine ⟨_, ?_, ldA_ok (f := fun j => vs.getD j undef) e3 e4 (by omega) (by omega)⟩
 simp only [execOp, hop, ha, Instr.field, asAgg, Sem.run_bind, Sem.run_pure, Result.andThen_ok, run_underlying ht.und, hfd]
 rw [run_part hft vs fd.offset (by omega) (by omega)]
 rfl
theorem sliceOf_ok {g : Gh} {v : AV} {sz : Nat} {es : List (List D)} {u : Value} (h : sliceOf v = some (sz, es)) (hu : AVR g v u) : DR g.F (.fs sz es) u := by
 unfold sliceOf at h
 split at h
 ·simp only [Option.some.injEq, Prod.mk.injEq] at h; obtain ⟨rfl, rfl⟩ := h; cases hu; assumption
 ·simp only [Option.some.injEq, Prod.mk.injEq] at h; obtain ⟨rfl, rfl⟩ := h
  cases hu with
  | ts0 => assumption
  | ts => assumption
 ·simp only [Option.some.injEq, Prod.mk.injEq] at h; obtain ⟨rfl, rfl⟩ := h; cases hu; assumption
 ·simp only [Option.some.injEq, Prod.mk.injEq] at h; obtain ⟨rfl, rfl⟩ := h; cases hu; exact .fs0 _ _ _
 ·cases h
theorem evalInt {g : Gh} {a : Act} {x : Operand} {k : IntKind} {n : Int} (h : AVR g (.d (.it k n)) (a.eval x)) : a.eval x = .int k n := by
 generalize a.eval x = q at h
 cases h with | d _ _ h => cases h; rfl
theorem evalStr {g : Gh} {a : Act} {x : Operand} {l : List UInt8} (h : AVR g (.d (.st l)) (a.eval x)) : a.eval x = .string ⟨l.toArray⟩ := by
 generalize a.eval x = q at h
 cases h with | d _ _ h => cases h; rfl
theorem evalBool {g : Gh} {a : Act} {x : Operand} {b : Bool} (h : AVR g (.d (.bl b)) (a.eval x)) : a.eval x = .bool b := by
 generalize a.eval x = q at h
 cases h with | d _ _ h => cases h; rfl
theorem does_indexAddr_slice {t e : Nat} {x y : Operand} {ty ety : Ty} {v : AV} {sz : Nat} {es : List (List D)} {k : IntKind} {n : Int} {c : List D} (hti : TiOK P ti) (hop : o.op = .indexAddr t x y) (ht : tyOf P t = some ty) (hk : ty.kd = .slice e) (he : ti e = some ety)
  (hx : r x = some v) (hv : sliceOf v = some (sz, es)) (hy : r y = some (.d (.it k n))) (hsz : sz = ety.size) (hn : 0 ≤ n ∧ n < es.length) (hc : es[n.toNat]? = some c) : Does P mem nx r o (.d (.fp sz c)) := by
 obtain ⟨u, i, ht⟩ := tyOf_ok ht
 obtain ⟨ue, ie, het⟩ := tyOf_ok (hti _ _ he)
 obtain rfl := slice_of ht hk
 refine .of_run rfl fun κ g a w hi ho => ?_
 have h1 := ho x (by simp [hop, Op.operands]) _ hx
 have h2 := evalInt (ho y (by simp [hop, Op.operands]) _ hy)
 have h3 := sliceOf_ok hv h1
 generalize ha : a.eval x = q at h3
 have hlt : n.toNat < es.length := by omega
 have hcc : c = es[n.toNat] := by rw [List.getElem?_eq_getElem hlt] at hc; exact (Option.some.inj hc).symm
 cases h3 with
 | fs0 => simp at hlt
 | fs _ _ b off len cap vs hl hcap hs hF hd =>
  refine ⟨.pointer (some ⟨b, off + n.toNat * sz, none⟩), ?_, .d _ _ (.fp _ _ _ _ (fun j => vs n.toNat j) (by rw [hcc]; exact hs _ hlt) (fun j hj => hF _ _ (by omega) hj) fun j hj => ?_)⟩
  ·have hcond : (0 : Int) ≤ n ∧ n < (len : Int) := by omega
   simp only [execOp, hop, ha, h2, Instr.indexAt, asIntOf, Sem.run_bind, Sem.run_pure, Result.andThen_ok, run_underlying ht.und, Sem.run_ite]
   rw [if_pos hcond]
   simp only [Sem.run_bind, run_sizeOf' het.info, Result.andThen_ok, Sem.run_pure, addr_add, het.size, hsz]
  ·subst hcc; exact hd _ hlt j hj
theorem does_indexAddr_arr {t e len k : Nat} {x y : Operand} {ty ety : Ty} {cs : List D} {kk : IntKind} {n : Int} (hti : TiOK P ti) (hop : o.op = .indexAddr t x y) (ht : tyOf P t = some ty) (hk : ty.kd = .arr len e) (he : ti e = some ety)
  (hx : r x = some (.d (.fp k cs))) (hy : r y = some (.d (.it kk n))) (hle : len * ety.size ≤ k) (hn : 0 ≤ n ∧ n < len) : Does P mem nx r o (.d (.fp ety.size ((cs.drop (n.toNat * ety.size)).take ety.size))) := by
 obtain ⟨u, i, ht⟩ := tyOf_ok ht
 obtain ⟨ue, ie, het⟩ := tyOf_ok (hti _ _ he)
 obtain rfl := arr_of ht hk
 refine .of_run rfl fun κ g a w hi ho => ?_
 have h1 := ho x (by simp [hop, Op.operands]) _ hx
 have h2 := evalInt (ho y (by simp [hop, Op.operands]) _ hy)
 generalize ha : a.eval x = q at h1
 cases h1 with | d _ _ h1 => ?_
 cases h1 with | fp _ _ b off f hl hF hd => ?_
 have hm : n.toNat * ety.size + ety.size ≤ k := by
  have : (n.toNat + 1) * ety.size ≤ len * ety.size := Nat.mul_le_mul_right _ (by omega)
  rw [Nat.add_mul] at this; omega
 refine ⟨.pointer (some ⟨b, off + n.toNat * ety.size, none⟩), ?_, .d _ _ (.fp _ _ _ _ (fun j => f (n.toNat * ety.size + j)) (by simp; omega) (fun j hj => by rw [Nat.add_assoc]; exact hF _ (by omega)) fun j hj => ?_)⟩
 ·have hcond : (0 : Int) ≤ n ∧ n < (len : Int) := by omega
  simp only [execOp, hop, ha, h2, Instr.indexAt, asIntOf, Instr.sureAddr, Sem.run_bind, Sem.run_pure, Result.andThen_ok, run_underlying ht.und, Sem.run_ite]
  rw [if_pos hcond]
  simp only [Sem.run_bind, run_sizeOf' het.info, Result.andThen_ok, Sem.run_pure, addr_add, het.size]
 ·simp only [List.length_take, List.length_drop] at hj
  simpa using hd (n.toNat * ety.size + j) (by omega)
theorem does_index_str {t : Nat} {x y : Operand} {ty : Ty} {l : List UInt8} {k : IntKind} {n : Int} {c : UInt8} (hop : o.op = .index t x y) (ht : tyOf P t = some ty) (hk : ty.kd = .string)
  (hx : r x = some (.d (.st l))) (hy : r y = some (.d (.it k n))) (hn : 0 ≤ n ∧ n < l.length) (hc : l[n.toNat]? = some c) : Does P mem nx r o (.d (.it .u8 c.toNat)) := by
 obtain ⟨u, i, ht⟩ := tyOf_ok ht
 obtain rfl := string_of ht hk
 refine .of_run rfl fun κ g a w hi ho => ?_
 have h1 := evalStr (ho x (by simp [hop, Op.operands]) _ hx)
 have h2 := evalInt (ho y (by simp [hop, Op.operands]) _ hy)
 refine ⟨_, ?_, .d _ _ (.it _ _)⟩
 have hg : (⟨l.toArray⟩ : ByteArray)[n.toNat]? = some c := by
  have hlt : n.toNat < l.length := by omega
  have h3 : n.toNat < (⟨l.toArray⟩ : ByteArray).size := by simpa [ByteArray.size] using hlt
  rw [getElem?_pos (⟨l.toArray⟩ : ByteArray) n.toNat h3]
  have h4 : l[n.toNat] = c := by rw [List.getElem?_eq_getElem hlt] at hc; exact Option.some.inj hc
  rw [← h4]; rfl
 simp only [execOp, hop, h1, h2, Instr.index, asIntOf, Sem.run_bind, Sem.run_pure, Result.andThen_ok, run_underlying ht.und, if_pos hn.1, hg]
theorem does_index_arr {t e len k : Nat} {x y : Operand} {ty ety : Ty} {cs : List D} {kk : IntKind} {n : Int} (hti : TiOK P ti) (hop : o.op = .index t x y) (ht : tyOf P t = some ty) (hk : ty.kd = .arr len e) (he : ti e = some ety)
  (hx : r x = some (.dg k cs)) (hy : r y = some (.d (.it kk n))) (hle : len * ety.size ≤ k) (h0 : 0 < ety.size) (hn : 0 ≤ n ∧ n < len) : Does P mem nx r o (ldD ety (cs.drop (n.toNat * ety.size))) := by
 obtain ⟨u, i, ht⟩ := tyOf_ok ht
 obtain ⟨ue, ie, het⟩ := tyOf_ok (hti _ _ he)
 obtain rfl := arr_of ht hk
 refine .of_run ldD_lt fun κ g a w hi ho => ?_
 have h1 := ho x (by simp [hop, Op.operands]) _ hx
 have h2 := evalInt (ho y (by simp [hop, Op.operands]) _ hy)
 generalize ha : a.eval x = q at h1
 cases h1 with | dg _ _ vs e1 e2 e3 => ?_
 have hm : n.toNat * ety.size + ety.size ≤ k := by
  have : (n.toNat + 1) * ety.size ≤ len * ety.size := Nat.mul_le_mul_right _ (by omega)
  rw [Nat.add_mul] at this; omega
 have hrel : ∀ j (h : j < (cs.drop (n.toNat * ety.size)).length), DR g.F (cs.drop (n.toNat * ety.size))[j] (vs.getD (n.toNat * ety.size + j) undef) := fun j hj => by
  simp only [List.length_drop] at hj
  simpa using e3 (n.toNat * ety.size + j) (by omega)
 refine ⟨_, ?_, ldD_ok (f := fun j => vs.getD (n.toNat * ety.size + j) undef) hrel (by simp; omega) (by simp; omega)⟩
 have hcond : (0 : Int) ≤ n ∧ n < (len : Int) := by omega
 simp only [execOp, hop, ha, h2, Instr.index, asIntOf, Sem.run_bind, Sem.run_pure, Result.andThen_ok, run_underlying ht.und, Sem.run_ite]
 rw [if_pos hcond]
 simp only [Sem.run_bind, run_sizeOf' het.info, Result.andThen_ok, het.size]
 rw [run_part het vs _ (by omega) (by omega)]
 rfl
end
end Go.Sy
namespace Go.Sy
section
variable {P : Program} {ti : Nat → Option Ty} {mem : List (Nat × Ob)} {nx : Nat} {r : Operand → Option AV} {o : Oper} {K : AV → Prop}
theorem run_bound {v : Value} {k : IntKind} {n : Int} {y : Nat} {c : BoundsCode} (hv : v = .int k n) (h : 0 ≤ n ∧ n ≤ y) (w : World) : (Instr.sliceBound v y c).run P w = .ok n.toNat w := by
 subst hv
 simp only [Instr.sliceBound, asIntOf, Sem.run_bind, Sem.run_pure, Result.andThen_ok]
 rw [if_pos h]; rfl
def bds (len cap : Nat) (lo hi mx : Option Int) : Nat × Nat × Nat :=
 ((lo.map Int.toNat).getD 0, (hi.map Int.toNat).getD len, (mx.map Int.toNat).getD cap)
theorem run_bounds (b : Bool) (len cap : Nat) (lo hi mx : Option Value) (i j m : Option Int) (h1 : lo = i.map (.int .i64)) (h2 : hi = j.map (.int .i64)) (h3 : mx = m.map (.int .i64)) (hm : mx.isSome → hi.isSome)
  (hle : len ≤ cap) (c1 : ∀ x, i = some x → 0 ≤ x) (c2 : ∀ x, j = some x → 0 ≤ x) (c3 : ∀ x, m = some x → 0 ≤ x) (hlo : (bds len cap i j m).1 ≤ (bds len cap i j m).2.1) (hhi : (bds len cap i j m).2.1 ≤ (bds len cap i j m).2.2) (hmx : (bds len cap i j m).2.2 ≤ cap) (w : World) :
  (Instr.sliceBounds b len cap lo hi mx).run P w = .ok (bds len cap i j m) w := by
 subst h1 h2 h3
 simp only [bds] at *
 cases m with
 | none =>
  cases j with
  | none =>
   cases i with
   | none => simp [Instr.sliceBounds]
   | some i =>
    simp at hlo hhi hmx
    have c := c1 i rfl
    simp only [Instr.sliceBounds, Option.map, Sem.run_bind, Sem.run_pure, Result.andThen_ok]
    rw [run_bound rfl ⟨c, by omega⟩]; rfl
  | some j =>
   have c := c2 j rfl
   simp at hlo hhi hmx
   cases i with
   | none =>
    simp only [Instr.sliceBounds, Option.map, Sem.run_bind, Sem.run_pure, Result.andThen_ok]
    rw [run_bound rfl ⟨c, by omega⟩]; rfl
   | some i =>
    simp at hlo
    have c' := c1 i rfl
    simp only [Instr.sliceBounds, Option.map, Sem.run_bind, Sem.run_pure, Result.andThen_ok]
    rw [run_bound rfl ⟨c, by omega⟩]
    simp only [Result.andThen_ok]
    rw [run_bound rfl ⟨c', by omega⟩]; rfl
 | some m =>
  have cm := c3 m rfl
  cases j with
  | none => simp at hm
  | some j =>
   have c := c2 j rfl
   simp at hlo hhi hmx
   cases i with
   | none =>
    simp only [Instr.sliceBounds, Option.map, Sem.run_bind, Sem.run_pure, Result.andThen_ok]
    rw [run_bound rfl ⟨cm, by omega⟩]
    simp only [Result.andThen_ok]
    rw [run_bound rfl ⟨c, by omega⟩]; rfl
   | some i =>
    simp at hlo
    have c' := c1 i rfl
    simp only [Instr.sliceBounds, Option.map, Sem.run_bind, Sem.run_pure, Result.andThen_ok]
    rw [run_bound rfl ⟨cm, by omega⟩]
    simp only [Result.andThen_ok]
    rw [run_bound rfl ⟨c, by omega⟩]
    simp only [Result.andThen_ok]
    rw [run_bound rfl ⟨c', by omega⟩]; rfl
theorem DR.sub {F : Nat → Nat → Option Value} {sz : Nat} {es : List (List D)} {a : Option Addr} {len cap : Nat} (h : DR F (.fs sz es) (.slice a len cap)) {i j m : Nat} (hij : i ≤ j) (hj : j ≤ es.length) (hjm : j ≤ m) :
  DR F (.fs sz ((es.take j).drop i)) (.slice (if m = i then a else a.map (·.add (i * sz))) (j - i) (m - i)) := by
 by_cases he : j = i
 ·subst he
  have : (es.take j).drop j = [] := by simp
  rw [this, Nat.sub_self]
  exact .fs0 _ _ _
 ·have hpos : 0 < es.length := by omega
  cases h with
  | fs0 => simp at hpos
  | fs _ _ b off len cap vs hl hcap hs hF hd =>
   rw [if_neg (by omega)]
   simp only [Option.map, addr_add]
   refine .fs _ _ _ _ _ _ (fun x y => vs (i + x) y) (by simp; omega) (by omega) (fun x hx => ?_) (fun x y hx hy => ?_) fun x hx y hy => ?_
   ·simp only [List.length_drop, List.length_take] at hx
    simp only [List.getElem_drop, List.getElem_take]
    exact hs _ _
   ·have := hF (i + x) y (by omega) hy
    rw [Nat.add_mul] at this
    rw [← this]; congr 1; omega
   ·simp only [List.length_drop, List.length_take] at hx
    simp only [List.getElem_drop, List.getElem_take] at hy ⊢
    exact hd _ _ _ hy
def mapI (x : Option Operand) (i : Option Int) (r : Operand → Option AV) : Prop :=
 match x, i with
 | none, none => True
 | some x, some n => r x = some (.d (.it .i64 n))
 | _, _ => False
theorem mapI_ok {g : Gh} {a : Act} {x : Option Operand} {i : Option Int} (h : mapI x i r) (hm : ∀ y, x = some y → y ∈ o.op.operands.toList) (ho : ∀ x ∈ o.op.operands.toList, ∀ v, r x = some v → AVR g v (a.eval x)) : x.map a.eval = i.map (.int .i64) := by
 cases x <;> cases i <;> simp only [mapI] at h
 ·rfl
 ·simp only [Option.map, Option.some.injEq]
  exact evalInt (ho _ (hm _ rfl) _ h)
theorem does_slice_slice {t e : Nat} {x : Operand} {lo hi mx : Option Operand} {i j m : Option Int} {ty ety : Ty} {v : AV} {sz : Nat} {es : List (List D)} (hti : TiOK P ti) (hop : o.op = .slice t x lo hi mx) (ht : tyOf P t = some ty) (hk : ty.kd = .slice e) (he : ti e = some ety)
  (hx : r x = some v) (hv : sliceOf v = some (sz, es)) (hsz : sz = ety.size) (h1 : mapI lo i r) (h2 : mapI hi j r) (h3 : mapI mx m r) (hm : mx.isSome → hi.isSome)
  (c1 : ∀ x, i = some x → 0 ≤ x) (c2 : ∀ x, j = some x → 0 ≤ x) (c3 : ∀ x, m = some x → 0 ≤ x ∧ x ≤ es.length ∧ j = some x) (hlo : (i.map Int.toNat).getD 0 ≤ (j.map Int.toNat).getD es.length) (hhi : (j.map Int.toNat).getD es.length ≤ es.length) :
  Does P mem nx r o (if mx.isSome then .tg sz ((es.take ((j.map Int.toNat).getD es.length)).drop ((i.map Int.toNat).getD 0)) else .d (.fs sz ((es.take ((j.map Int.toNat).getD es.length)).drop ((i.map Int.toNat).getD 0)))) := by
 obtain ⟨u, inf, ht⟩ := tyOf_ok ht
 obtain ⟨ue, ie, het⟩ := tyOf_ok (hti _ _ he)
 obtain rfl := slice_of ht hk
 refine .of_run (by split <;> rfl) fun κ g a w hi' ho => ?_
 have hxv := sliceOf_ok hv (ho x (by simp [hop, Op.operands]) _ hx)
 have e1 := mapI_ok (o := o) (g := g) (a := a) h1 (fun y hy => by subst hy; simp [hop, Op.operands]) ho
 have e2 := mapI_ok (o := o) (g := g) (a := a) h2 (fun y hy => by subst hy; simp [hop, Op.operands]) ho
 have e3 := mapI_ok (o := o) (g := g) (a := a) h3 (fun y hy => by subst hy; simp [hop, Op.operands]) ho
 generalize ha : a.eval x = q at hxv
 have hq : ∃ ad len cap, q = .slice ad len cap ∧ len = es.length ∧ len ≤ cap := by
  cases hxv with
  | fs0 => exact ⟨_, _, _, rfl, rfl, Nat.zero_le _⟩
  | fs => exact ⟨_, _, _, rfl, by omega, by omega⟩
 obtain ⟨ad, len, cap, rfl, rfl, hcap⟩ := hq
 have hmx : (mx.map a.eval).isSome → (hi.map a.eval).isSome := fun h => by simpa using hm (by simpa using h)
 have hB : (bds es.length cap i j m).2.1 ≤ (bds es.length cap i j m).2.2 ∧ (bds es.length cap i j m).2.2 ≤ cap := by
  cases m with
  | none => exact ⟨Nat.le_trans (m := es.length) hhi hcap, Nat.le_refl _⟩
  | some m =>
   obtain ⟨q1, q2, q3⟩ := c3 m rfl
   subst q3
   simp only [bds, Option.map, Option.getD] at hhi ⊢
   exact ⟨Nat.le_refl _, by omega⟩
 have hrun := run_bounds (P := P) true es.length cap (lo.map a.eval) (hi.map a.eval) (mx.map a.eval) i j m e1 e2 e3 hmx hcap c1 c2 (fun x hx => (c3 x hx).1) hlo hB.1 hB.2 w
 refine ⟨.slice (if (bds es.length cap i j m).2.2 = (bds es.length cap i j m).1 then ad else ad.map (·.add ((bds es.length cap i j m).1 * sz))) ((bds es.length cap i j m).2.1 - (bds es.length cap i j m).1) ((bds es.length cap i j m).2.2 - (bds es.length cap i j m).1), ?_, ?_⟩
 rotate_left
 ·have hd := hxv.sub (i := (bds es.length cap i j m).1) (j := (bds es.length cap i j m).2.1) (m := (bds es.length cap i j m).2.2) hlo hhi hB.1
  split
  ·rename_i hs
   have hmj : (bds es.length cap i j m).2.2 = (bds es.length cap i j m).2.1 := by
    cases m with
    | none => cases mx <;> simp [mapI] at h3 hs
    | some m =>
     obtain ⟨q1, q2, q3⟩ := c3 m rfl
     subst q3; rfl
   rw [hmj] at hd ⊢
   exact .tg _ _ _ _ (by simp only [bds] at *; simp; omega) hd
  ·exact .d _ _ hd
 ·simp only [execOp, hop, ha, Instr.sliceAt, Sem.run_bind, Sem.run_pure, Result.andThen_ok, run_underlying ht.und, Instr.slice, hrun, run_sizeOf' het.info, het.size, ← hsz]
theorem bytes_extract (l : List UInt8) (i j : Nat) : (⟨l.toArray⟩ : ByteArray).extract i j = ⟨((l.take j).drop i).toArray⟩ := by
 apply ByteArray.ext
 simp only [ByteArray.data_extract]
 apply Array.ext'
 simp [List.extract_eq_take_drop, List.drop_take]
theorem does_slice_str {t : Nat} {x : Operand} {lo hi : Option Operand} {i j : Option Int} {ty : Ty} {l : List UInt8} (hop : o.op = .slice t x lo hi none) (ht : tyOf P t = some ty) (hk : ty.kd = .string)
  (hx : r x = some (.d (.st l))) (h1 : mapI lo i r) (h2 : mapI hi j r)
  (c1 : ∀ x, i = some x → 0 ≤ x) (c2 : ∀ x, j = some x → 0 ≤ x) (hlo : (i.map Int.toNat).getD 0 ≤ (j.map Int.toNat).getD l.length) (hhi : (j.map Int.toNat).getD l.length ≤ l.length) :
  Does P mem nx r o (.d (.st ((l.take ((j.map Int.toNat).getD l.length)).drop ((i.map Int.toNat).getD 0)))) := by
 obtain ⟨u, inf, ht⟩ := tyOf_ok ht
 obtain rfl := string_of ht hk
 refine .of_run rfl fun κ g a w hi' ho => ?_
 have hxv := evalStr (ho x (by simp [hop, Op.operands]) _ hx)
 have e1 := mapI_ok (o := o) (g := g) (a := a) h1 (fun y hy => by subst hy; simp [hop, Op.operands]) ho
 have e2 := mapI_ok (o := o) (g := g) (a := a) h2 (fun y hy => by subst hy; simp [hop, Op.operands]) ho
 have hrun := run_bounds (P := P) false l.length l.length (lo.map a.eval) (hi.map a.eval) none i j none e1 e2 rfl (by simp) (Nat.le_refl _) c1 c2 (fun x hx => by cases hx) hlo (by simpa [bds] using hhi) (by simp [bds]) w
 refine ⟨_, ?_, .d _ _ (.st _)⟩
 rw [← bytes_extract]
 have hsz : (⟨l.toArray⟩ : ByteArray).size = l.length := by simp [ByteArray.size]
 have hmn : Option.map a.eval (none : Option Operand) = none := rfl
 simp only [execOp, hop, hxv, Instr.sliceAt, hmn, Sem.run_bind, Sem.run_pure, Result.andThen_ok, run_underlying ht.und, Instr.slice, hsz, Option.isSome, Bool.false_eq_true, if_false, hrun, bds]
theorem binI_ok {op : BinOp} {k : IntKind} {a b : Int} {K : D → Prop} (h : binI op k a b K) : ∃ z v, K z ∧ (∀ F, DR F z v) ∧ ∀ (t : TypeId) (l : IntKind), (l = k ∨ op = .shl ∨ op = .shr) → ∀ w, (binOp op t (.int k a) (.int l b)).run P w = .ok v w := by
 cases op <;> simp only [binI] at h
 case shl => exact ⟨_, _, h.2.run, fun F => .it _ _, fun t l hl w => by simp [binOp, Op.shift, show ¬ b < 0 by omega]⟩
 case shr => exact ⟨_, _, h.2.run, fun F => .it _ _, fun t l hl w => by simp [binOp, Op.shift, show ¬ b < 0 by omega]⟩
 case quo => exact ⟨_, _, h.2.run, fun F => .it _ _, fun t l hl w => by obtain rfl := hl.resolve_right (by simp); simp [binOp, Op.intDiv, h.1]⟩
 case rem => exact ⟨_, _, h.2.run, fun F => .it _ _, fun t l hl w => by obtain rfl := hl.resolve_right (by simp); simp [binOp, Op.intDiv, h.1]⟩
 case and => exact ⟨_, _, h.run, fun F => .it _ _, fun t l hl w => by obtain rfl := hl.resolve_right (by simp); simp [binOp, Op.intBits]⟩
 case or => exact ⟨_, _, h.run, fun F => .it _ _, fun t l hl w => by obtain rfl := hl.resolve_right (by simp); simp [binOp, Op.intBits]⟩
 case xor => exact ⟨_, _, h.run, fun F => .it _ _, fun t l hl w => by obtain rfl := hl.resolve_right (by simp); simp [binOp, Op.intBits]⟩
 case andNot => exact ⟨_, _, h.run, fun F => .it _ _, fun t l hl w => by obtain rfl := hl.resolve_right (by simp); simp [binOp, Op.intBits]⟩
 case add => exact ⟨_, _, h.run, fun F => .it _ _, fun t l hl w => by obtain rfl := hl.resolve_right (by simp); simp [binOp, Op.intArith]⟩
 case sub => exact ⟨_, _, h.run, fun F => .it _ _, fun t l hl w => by obtain rfl := hl.resolve_right (by simp); simp [binOp, Op.intArith]⟩
 case mul => exact ⟨_, _, h.run, fun F => .it _ _, fun t l hl w => by obtain rfl := hl.resolve_right (by simp); simp [binOp, Op.intArith]⟩
 all_goals exact ⟨_, _, h, fun F => .bl _, fun t l hl w => by obtain rfl := hl.resolve_right (by simp); simp [binOp, Op.intCmp]⟩
theorem ba_toList (l : List UInt8) : (⟨l.toArray⟩ : ByteArray).toList = l := by rw [ByteArray.toList_eq]
theorem ba_append (a b : List UInt8) : (⟨a.toArray⟩ : ByteArray) ++ ⟨b.toArray⟩ = ⟨(a ++ b).toArray⟩ := by
 apply ByteArray.ext
 simp [ByteArray.data_append]
theorem binS_ok {op : BinOp} {a b : List UInt8} {K : D → Prop} (h : binS op a b K) : ∃ z v, K z ∧ (∀ F, DR F z v) ∧ ∀ (t : TypeId) w, (binOp op t (.string ⟨a.toArray⟩) (.string ⟨b.toArray⟩)).run P w = .ok v w := by
 have hsz : ∀ l : List UInt8, (⟨l.toArray⟩ : ByteArray).size = l.length := fun l => by simp [ByteArray.size]
 cases op <;> simp only [binS] at h
 case add =>
  refine ⟨_, _, h.2, fun F => .st _, fun t w => ?_⟩
  have hmax : IntKind.i64.max = 9223372036854775807 := by decide
  have : ¬ (((a.length + b.length : Nat) : Int) > IntKind.i64.max) := by rw [hmax]; omega
  simp only [binOp, Op.stringOp, hsz, if_neg this, ba_append]; rfl
 case eql => exact ⟨_, _, h, fun F => .bl _, fun t w => by simp [binOp, Op.stringOp, ba_toList]⟩
 case neq => exact ⟨_, _, h, fun F => .bl _, fun t w => by simp [binOp, Op.stringOp, ba_toList]⟩
 case lss => exact ⟨_, _, h, fun F => .bl _, fun t w => by simp [binOp, Op.stringOp, ba_toList]⟩
 case leq => exact ⟨_, _, h, fun F => .bl _, fun t w => by simp [binOp, Op.stringOp, ba_toList]⟩
 case gtr => exact ⟨_, _, h, fun F => .bl _, fun t w => by simp [binOp, Op.stringOp, ba_toList]⟩
 case geq => exact ⟨_, _, h, fun F => .bl _, fun t w => by simp [binOp, Op.stringOp, ba_toList]⟩
theorem guard_scalar (op : BinOp) (t : TypeId) (x y : Operand) (u v : Value) (h : (∃ k n, u = .int k n) ∨ (∃ s, u = .string s) ∨ (∃ b, u = .bool b)) (w : World) : (eqGuard op t x y u v).run P w = .ok () w := by
 rcases h with ⟨k, n, rfl⟩ | ⟨s, rfl⟩ | ⟨b, rfl⟩ <;> cases op <;> simp [eqGuard]
end
end Go.Sy
namespace Go.Sy
def likeV : D → Value → Bool
 | .bl _, .bool _ => true
 | .it k _, .int l _ => decide (k = l)
 | .st _, .string _ => true
 | _, _ => false
def eqV : Value → Value → Bool
 | .bool a, .bool b => a == b
 | .int _ a, .int _ b => a == b
 | .string a, .string b => a.toList == b.toList
 | _, _ => false
def likeA : List D → Array Value → Nat → Bool
 | [], _, _ => true
 | z :: r, xs, o => likeV z (xs.getD o undef) && likeA r xs (o + 1)
def eqA : Nat → Array Value → Array Value → Nat → Bool
 | 0, _, _, _ => true
 | n + 1, xs, ys, o => eqV (xs.getD o undef) (ys.getD o undef) && eqA n xs ys (o + 1)
def vOf (agg : Bool) (xs : Array Value) : Value := if agg then .agg xs else xs.getD 0 undef
theorem likeA_append : ∀ (a b : List D) (xs : Array Value) (o : Nat), likeA (a ++ b) xs o = (likeA a xs o && likeA b xs (o + a.length))
 | [], b, xs, o => by simp [likeA]
 | z :: r, b, xs, o => by
  simp only [List.cons_append, likeA, likeA_append r b xs (o + 1), List.length_cons, Bool.and_assoc]
  congr 3; omega
theorem eqA_append : ∀ (a b : Nat) (xs ys : Array Value) (o : Nat), eqA (a + b) xs ys o = (eqA a xs ys o && eqA b xs ys (o + a))
 | 0, b, xs, ys, o => by simp [eqA]
 | a + 1, b, xs, ys, o => by
  rw [Nat.add_right_comm]
  simp only [eqA, eqA_append a b xs ys (o + 1), Bool.and_assoc]
  congr 3; omega
theorem extract_getD (xs : Array Value) (o n j : Nat) (hj : j < n) (h : o + n ≤ xs.size) : (xs.extract o (o + n)).getD j undef = xs.getD (o + j) undef := by
 have h1 : j < (xs.extract o (o + n)).size := by rw [Array.size_extract]; omega
 have h2 : o + j < xs.size := by omega
 rw [Array.getD, dif_pos h1, Array.getD, dif_pos h2]
 simp
theorem likeA_extract : ∀ (z : List D) (xs : Array Value) (o n j : Nat), o + n ≤ xs.size → j + z.length ≤ n → likeA z (xs.extract o (o + n)) j = likeA z xs (o + j)
 | [], _, _, _, _, _, _ => rfl
 | d :: r, xs, o, n, j, h, hj => by
  simp only [List.length_cons] at hj
  simp only [likeA]
  rw [extract_getD xs o n j (by omega) h, likeA_extract r xs o n (j + 1) h (by omega)]; rfl
theorem eqA_extract : ∀ (m : Nat) (xs ys : Array Value) (o n j : Nat), o + n ≤ xs.size → o + n ≤ ys.size → j + m ≤ n → eqA m (xs.extract o (o + n)) (ys.extract o (o + n)) j = eqA m xs ys (o + j)
 | 0, _, _, _, _, _, _, _, _ => rfl
 | m + 1, xs, ys, o, n, j, h, h', hj => by
  simp only [eqA]
  rw [extract_getD xs o n j (by omega) h, extract_getD ys o n j (by omega) h', eqA_extract m xs ys o n (j + 1) h h' (by omega)]; rfl
section
variable {P : Program}
theorem run_part' {t : Nat} {u : TypeDesc} {i : TypeInfo} (hu : P.underlying t = some u) (hi : P.info? t = some i) (xs : Array Value) (o : Nat) (h : o + i.size ≤ xs.size) (h1 : (kdOf u).agg = false → i.size = 1) (w : World) :
  (part t xs o).run P w = .ok (vOf (kdOf u).agg (xs.extract o (o + i.size))) w := by
 simp only [part, Sem.run_bind, run_isAgg' hu, Result.andThen_ok]
 cases ha : (kdOf u).agg with
 | true => simp only [if_true, Sem.run_bind, run_sizeOf' hi, Result.andThen_ok, Sem.run_pure, vOf]
 | false =>
  simp only [Bool.false_eq_true, if_false, vOf]
  have h2 := h1 ha
  have h3 : o < xs.size := by omega
  rw [extract_getD xs o i.size 0 (by omega) h]
  simp [h3, Array.getD]
def EqOK (P : Program) (t : Nat) (z : List D) (n : Nat) : Prop :=
 ∃ u i, P.underlying t = some u ∧ P.info? t = some i ∧ i.size = z.length ∧ ((kdOf u).agg = false → z.length = 1) ∧
  ∀ d, n ≤ d → ∀ xs ys : Array Value, xs.size = z.length → ys.size = z.length → likeA z xs 0 = true → likeA z ys 0 = true → ∀ w, (Op.equalIn d t (vOf (kdOf u).agg xs) (vOf (kdOf u).agg ys)).run P w = .ok (eqA z.length xs ys 0) w
theorem run_eqFields {K : Nat → Option (List D)} {n : Nat} (hK : ∀ t z, K t = some z → EqOK P t z n) {d : Nat} (hd : n ≤ d) (xs ys : Array Value) (hxy : xs.size = ys.size) : ∀ (fs : List Field) (o : Nat) (z : List D), flatKs K fs o = some z → o + z.length ≤ xs.size →
  likeA z xs o = true → likeA z ys o = true → ∀ w, (Op.eqFields d xs ys fs).run P w = .ok (eqA z.length xs ys o) w
 | [], o, z, h, hz, l1, l2, w => by
  obtain rfl := Option.some.inj h
  rfl
 | f :: r, o, z, h, hz, l1, l2, w => by
  simp only [flatKs] at h
  cases hc : (f.offset == o && f.name != "_") with
  | false => rw [hc] at h; cases h
  | true =>
   rw [hc] at h
   simp only [cond_true] at h
   simp only [Bool.and_eq_true, beq_iff_eq, bne_iff_ne] at hc
   split at h
   case h_2 => cases h
   rename_i q l hl
   split at h
   case h_2 => cases h
   rename_i l' hl'
   obtain rfl := Option.some.inj h
   simp only [List.length_append] at hz ⊢
   rw [likeA_append, Bool.and_eq_true] at l1 l2
   obtain ⟨u, i, e1, e2, e3, e4, e5⟩ := hK _ _ hl
   have ih := run_eqFields hK hd xs ys hxy r (o + l.length) l' hl' (by omega) l1.2 l2.2 w
   have p1 := run_part' e1 e2 xs f.offset (by rw [hc.1, e3]; omega) (fun h => by rw [e3]; exact e4 h) w
   have p2 := run_part' e1 e2 ys f.offset (by rw [hc.1, e3, ← hxy]; omega) (fun h => by rw [e3]; exact e4 h) w
   have q := e5 d hd (xs.extract f.offset (f.offset + i.size)) (ys.extract f.offset (f.offset + i.size)) (by simp [hc.1, e3]; omega) (by simp [hc.1, e3, ← hxy]; omega)
    (by rw [likeA_extract _ _ _ _ _ (by rw [hc.1, e3]; omega) (by omega), hc.1]; exact l1.1) (by rw [likeA_extract _ _ _ _ _ (by rw [hc.1, e3, ← hxy]; omega) (by omega), hc.1]; exact l2.1) w
   rw [eqA_extract _ _ _ _ _ _ (by rw [hc.1, e3]; omega) (by rw [hc.1, e3, ← hxy]; omega) (by omega), hc.1] at q
   rw [hc.1] at p1 p2
   simp only [Op.eqFields, if_pos hc.2, Sem.run_bind, hc.1, p1, p2, Result.andThen_ok, q, Sem.run_ite, eqA_append, Nat.add_zero]
   cases eqA l.length xs ys o with
   | true => simp [ih]
   | false => simp
theorem run_eqLoop {n : Nat} {e : Nat} {z : List D} (hK : EqOK P e z n) {d : Nat} (hd : n ≤ d) (xs ys : Array Value) (hxy : xs.size = ys.size) {i : TypeInfo} (hi : P.info? e = some i) : ∀ (len k : Nat), k * z.length + len * z.length ≤ xs.size →
  (∀ j, j < len → likeA z xs ((k + j) * z.length) = true) → (∀ j, j < len → likeA z ys ((k + j) * z.length) = true) → ∀ w,
  (forIn (List.range' k len) ((none, ()) : Option Bool × Unit) (fun i r => do
   let a ← part e xs (i * z.length)
   let b ← part e ys (i * z.length)
   let q ← Op.equalIn d e a b
   if (!q) = true then pure (ForInStep.done (some false, ())) else pure (ForInStep.yield (none, ()))) : Sem (Option Bool × Unit)).run P w = .ok (if eqA (len * z.length) xs ys (k * z.length) then (none, ()) else (some false, ())) w
 | 0, k, _, _, _, w => by simp [eqA]
 | len + 1, k, hz, l1, l2, w => by
  obtain ⟨u, i', e1, e2, e3, e4, e5⟩ := hK
  rw [hi] at e2; obtain rfl := Option.some.inj e2
  rw [Nat.add_mul, Nat.one_mul] at hz
  have ih := run_eqLoop ⟨u, i, e1, hi, e3, e4, e5⟩ hd xs ys hxy hi len (k + 1) (by rw [Nat.add_mul, Nat.one_mul]; omega) (fun j hj => by rw [Nat.add_assoc, Nat.add_comm 1 j]; exact l1 (j + 1) (by omega)) (fun j hj => by rw [Nat.add_assoc, Nat.add_comm 1 j]; exact l2 (j + 1) (by omega)) w
  have p1 := run_part' e1 hi xs (k * z.length) (by rw [e3]; omega) (fun h => by rw [e3]; exact e4 h) w
  have p2 := run_part' e1 hi ys (k * z.length) (by rw [e3, ← hxy]; omega) (fun h => by rw [e3]; exact e4 h) w
  have q := e5 d hd (xs.extract (k * z.length) (k * z.length + i.size)) (ys.extract (k * z.length) (k * z.length + i.size)) (by simp [e3]; omega) (by simp [e3, ← hxy]; omega)
    (by rw [likeA_extract _ _ _ _ _ (by rw [e3]; omega) (by omega)]; simpa using l1 0 (by omega)) (by rw [likeA_extract _ _ _ _ _ (by rw [e3, ← hxy]; omega) (by omega)]; simpa using l2 0 (by omega)) w
  rw [eqA_extract _ _ _ _ _ _ (by rw [e3]; omega) (by rw [e3, ← hxy]; omega) (by omega)] at q
  have hs : (len + 1) * z.length = z.length + len * z.length := by rw [Nat.add_mul, Nat.one_mul, Nat.add_comm]
  simp only [List.range'_succ, List.forIn_cons, Sem.run_bind, p1, p2, Result.andThen_ok, q, Sem.run_ite, hs, eqA_append, Nat.add_zero]
  cases eqA z.length xs ys (k * z.length) with
  | true =>
   simp only [Bool.not_true, Bool.false_eq_true, if_false, Sem.run_bind, Sem.run_pure, Result.andThen_ok, ih, Bool.true_and]
   rw [show (k + 1) * z.length = k * z.length + z.length by rw [Nat.add_mul, Nat.one_mul]]
  | false => simp
theorem likeA_reps : ∀ (len : Nat) (l : List D) (xs : Array Value) (o : Nat), likeA (reps len l) xs o = true → ∀ j, j < len → likeA l xs (o + j * l.length) = true
 | 0, _, _, _, _, j, hj => by omega
 | len + 1, l, xs, o, h, j, hj => by
  simp only [reps, likeA_append, Bool.and_eq_true] at h
  cases j with
  | zero => simpa using h.1
  | succ j =>
   have := likeA_reps len l xs (o + l.length) h.2 j (by omega)
   rw [show o + (j + 1) * l.length = o + l.length + j * l.length by rw [Nat.add_mul]; omega]
   exact this
theorem reps_length (n : Nat) (l : List D) : (reps n l).length = n * l.length := by
 induction n with
 | zero => simp [reps]
 | succ n ih => simp [reps, ih, Nat.add_mul]; omega
theorem flatK_ok : ∀ (n : Nat) (t : Nat) (z : List D), flatK P n t = some z → EqOK P t z n
 | 0, t, z, h => by cases h
 | n + 1, t, z, h => by
  simp only [flatK] at h
  split at h
  case h_2 => cases h
  rename_i l i hl hi
  cases hs : (i.size == l.length) with
  | false => rw [hs] at h; cases h
  | true =>
   rw [hs] at h
   obtain rfl := Option.some.inj h
   have hs' : i.size = l.length := by simpa using hs
   split at hl
   ·rename_i hu
    obtain rfl := Option.some.inj hl
    refine ⟨_, i, hu, hi, hs', fun _ => rfl, fun d hd xs ys h1 h2 l1 l2 w => ?_⟩
    obtain ⟨d, rfl⟩ : ∃ e, d = e + 1 := ⟨d - 1, by omega⟩
    simp only [likeA, Bool.and_true, kdOf, Kd.agg, vOf, Bool.false_eq_true, if_false, eqA, List.length_cons, List.length_nil] at *
    generalize xs.getD 0 undef = a at *
    generalize ys.getD 0 undef = b at *
    cases a <;> simp only [likeV] at l1 <;> first | (cases l1; done) | skip
    cases b <;> simp only [likeV] at l2 <;> first | (cases l2; done) | skip
    exact run_equalIn_bool' w d t _ _ hu
   ·rename_i k hu
    obtain rfl := Option.some.inj hl
    refine ⟨_, i, hu, hi, hs', fun _ => rfl, fun d hd xs ys h1 h2 l1 l2 w => ?_⟩
    obtain ⟨d, rfl⟩ : ∃ e, d = e + 1 := ⟨d - 1, by omega⟩
    simp only [likeA, Bool.and_true, kdOf, Kd.agg, vOf, Bool.false_eq_true, if_false, eqA, List.length_cons, List.length_nil] at *
    generalize xs.getD 0 undef = a at *
    generalize ys.getD 0 undef = b at *
    cases a <;> simp only [likeV] at l1 <;> first | (cases l1; done) | skip
    cases b <;> simp only [likeV] at l2 <;> first | (cases l2; done) | skip
    obtain rfl := of_decide_eq_true l1
    obtain rfl := of_decide_eq_true l2
    exact run_equalIn_int w d t _ _ _ _ hu
   ·rename_i hu
    obtain rfl := Option.some.inj hl
    refine ⟨_, i, hu, hi, hs', fun _ => rfl, fun d hd xs ys h1 h2 l1 l2 w => ?_⟩
    obtain ⟨d, rfl⟩ : ∃ e, d = e + 1 := ⟨d - 1, by omega⟩
    simp only [likeA, Bool.and_true, kdOf, Kd.agg, vOf, Bool.false_eq_true, if_false, eqA, List.length_cons, List.length_nil] at *
    generalize xs.getD 0 undef = a at *
    generalize ys.getD 0 undef = b at *
    cases a <;> simp only [likeV] at l1 <;> first | (cases l1; done) | skip
    cases b <;> simp only [likeV] at l2 <;> first | (cases l2; done) | skip
    exact run_equalIn_string w d t _ _ hu
   ·rename_i fs hu
    cases hp : P.stoodInHeld t with
    | true => rw [hp] at hl; cases hl
    | false =>
     rw [hp] at hl
     simp only [cond_false] at hl
     have hf : P.fieldsOf t = fs := by simp [Program.fieldsOf, hu]
     refine ⟨_, i, hu, hi, hs', (fun h => by cases h), fun d hd xs ys h1 h2 l1 l2 w => ?_⟩
     obtain ⟨d, rfl⟩ : ∃ e, d = e + 1 := ⟨d - 1, by omega⟩
     simp only [kdOf, Kd.agg, vOf, if_true]
     rw [run_equalIn_struct w d t xs ys (by rw [hf]; exact hu) hp, hf]
     exact run_eqFields (fun t z h => flatK_ok n t z h) (by omega) xs ys (by omega) fs.toList 0 l hl (by omega) l1 l2 w
   ·rename_i len e hu
    split at hl
    case h_2 => cases hl
    rename_i z hz
    obtain rfl := Option.some.inj hl
    have hE := flatK_ok n e z hz
    obtain ⟨u, j, e1, e2, e3, e4, e5⟩ := hE
    refine ⟨_, i, hu, hi, hs', (fun h => by cases h), fun d hd xs ys h1 h2 l1 l2 w => ?_⟩
    obtain ⟨d, rfl⟩ : ∃ e, d = e + 1 := ⟨d - 1, by omega⟩
    rw [reps_length] at h1 h2
    have lp := run_eqLoop (P := P) ⟨u, j, e1, e2, e3, e4, e5⟩ (d := d) (by omega) xs ys (by omega) e2 len 0 (by omega) (fun q hq => by simpa using likeA_reps len z xs 0 l1 q hq) (fun q hq => by simpa using likeA_reps len z ys 0 l2 q hq) w
    simp only [kdOf, Kd.agg, vOf, if_true, Op.equalIn, Sem.run_bind, run_underlying hu, Result.andThen_ok, run_sizeOf' e2, e3]
    rw [Std.Legacy.Range.forIn_eq_forIn_range']
    have hsz : (List.range' [:len].start [:len].size [:len].step) = List.range' 0 len := by simp [Std.Legacy.Range.size]
    rw [hsz, lp]
    simp only [Result.andThen_ok, Nat.zero_mul, reps_length]
    cases eqA (len * z.length) xs ys 0 <;> rfl
   ·cases hl
end
end Go.Sy
namespace Go.Sy
theorem eqA_of {F : Nat → Nat → Option Value} {xs ys : Array Value} : ∀ {z cs ds : List D} {o : Nat}, likes z cs = true → likes z ds = true →
  (∀ j (h : j < cs.length), DR F cs[j] (xs.getD (o + j) undef)) → (∀ j (h : j < ds.length), DR F ds[j] (ys.getD (o + j) undef)) →
  likeA z xs o = true ∧ likeA z ys o = true ∧ eqA z.length xs ys o = eqDs cs ds ∧ cs.length = z.length ∧ ds.length = z.length
 | [], cs, ds, o, h1, h2, _, _ => by
  cases cs <;> simp only [likes] at h1
  ·cases ds <;> simp only [likes] at h2
   ·exact ⟨rfl, rfl, rfl, rfl, rfl⟩
   ·cases h2
  ·cases h1
 | a :: z, [], ds, o, h1, h2, _, _ => by cases h1
 | a :: z, c :: cs, [], o, h1, h2, _, _ => by cases h2
 | a :: z, c :: cs, d :: ds, o, h1, h2, hc, hd => by
  simp only [likes, Bool.and_eq_true] at h1 h2
  have ih := eqA_of (z := z) (cs := cs) (ds := ds) (o := o + 1) (F := F) (xs := xs) (ys := ys) h1.2 h2.2 (fun j hj => by rw [show o + 1 + j = o + (j + 1) by omega]; exact hc (j + 1) (by simpa using hj)) (fun j hj => by rw [show o + 1 + j = o + (j + 1) by omega]; exact hd (j + 1) (by simpa using hj))
  obtain ⟨i1, i2, i3, i4, i5⟩ := ih
  have r1 := hc 0 (by simp)
  have r2 := hd 0 (by simp)
  simp only [List.getElem_cons_zero, Nat.add_zero] at r1 r2
  simp only [likeA, eqA, eqDs, List.length_cons, i1, i2, i3, i4, i5, Bool.and_true]
  generalize xs.getD o undef = u at r1
  generalize ys.getD o undef = v at r2
  have l1 := h1.1
  have l2 := h2.1
  cases a <;> cases c <;> simp only [likeD] at l1 <;> first | (cases l1; done) | skip
  all_goals cases d <;> simp only [likeD] at l2 <;> first | (cases l2; done) | skip
  all_goals cases r1; cases r2
  ·exact ⟨rfl, rfl, rfl, trivial, trivial⟩
  ·exact ⟨l1, l2, rfl, trivial, trivial⟩
  ·exact ⟨rfl, rfl, by simp only [eqV, eqD, ba_toList], trivial, trivial⟩
section
variable {P : Program} {ti : Nat → Option Ty} {mem : List (Nat × Ob)} {nx : Nat} {r : Operand → Option AV} {o : Oper} {K : AV → Prop}
theorem does_binOp {op : BinOp} {t t' : Nat} {x y : Operand} {u v : AV} {K : D → Prop} (hti : TiOK P ti) (hop : o.op = .binOp op t x y t') (hx : r x = some u) (hy : r y = some v) (h : binK ti op t u v K) : ∃ z, K z ∧ Does P mem nx r o (.d z) := by
 have mx : x ∈ o.op.operands.toList := by simp [hop, Op.operands]
 have my : y ∈ o.op.operands.toList := by simp [hop, Op.operands]
 unfold binK at h
 split at h
 ·rename_i k a l b
  have key : ∀ z w, K z → (∀ F, DR F z w) → (∀ W, (binOp op t (.int k a) (.int l b)).run P W = .ok w W) → ∃ z, K z ∧ Does P mem nx r o (.d z) := fun z w hK hD hr =>
   ⟨z, hK, .of_run rfl fun κ g A W hi ho => ⟨w, by
    have h1 := evalInt (ho x mx _ hx)
    have h2 := evalInt (ho y my _ hy)
    simp only [execOp, hop, h1, h2, Sem.run_bind, guard_scalar op t x y _ _ (.inl ⟨_, _, rfl⟩), Result.andThen_ok, hr, Sem.run_pure], .d _ _ (hD _)⟩⟩
  split at h
  ·obtain ⟨z, w, hK, hD, hr⟩ := binI_ok h; exact key z w hK hD fun W => hr t l (.inr (.inl rfl)) W
  ·obtain ⟨z, w, hK, hD, hr⟩ := binI_ok h; exact key z w hK hD fun W => hr t l (.inr (.inr rfl)) W
  ·cases hkl : decide (k = l) with
   | false => rw [hkl] at h; exact h.elim
   | true =>
    rw [hkl] at h
    obtain ⟨z, w, hK, hD, hr⟩ := binI_ok h; exact key z w hK hD fun W => hr t l (.inl (of_decide_eq_true hkl).symm) W
 ·rename_i a b
  obtain ⟨z, w, hK, hD, hr⟩ := binS_ok (P := P) h
  exact ⟨z, hK, .of_run rfl fun κ g A W hi ho => ⟨w, by
   have h1 := evalStr (ho x mx _ hx)
   have h2 := evalStr (ho y my _ hy)
   simp only [execOp, hop, h1, h2, Sem.run_bind, guard_scalar op t x y _ _ (.inr (.inl ⟨_, rfl⟩)), Result.andThen_ok, hr t W, Sem.run_pure], .d _ _ (hD _)⟩⟩
 ·rename_i a b
  split at h
  ·rename_i hty
   obtain ⟨tu, i, ht⟩ := tyOf_ok (hti _ _ hty)
   obtain rfl := bool_of ht rfl
   exact ⟨_, h, .of_run rfl fun κ g A W hi ho => ⟨.bool (a == b), by
    have h1 := evalBool (ho x mx _ hx)
    have h2 := evalBool (ho y my _ hy)
    simp only [execOp, hop, h1, h2, Sem.run_bind, guard_scalar _ t x y _ _ (.inr (.inr ⟨_, rfl⟩)), Result.andThen_ok, binOp, Op.equal, Op.maxDepth, run_equalIn_bool' W 9999 t a b ht.und, Sem.run_pure], .d _ _ (.bl _)⟩⟩
  ·rename_i hty
   obtain ⟨tu, i, ht⟩ := tyOf_ok (hti _ _ hty)
   obtain rfl := bool_of ht rfl
   exact ⟨_, h, .of_run rfl fun κ g A W hi ho => ⟨.bool (!(a == b)), by
    have h1 := evalBool (ho x mx _ hx)
    have h2 := evalBool (ho y my _ hy)
    simp only [execOp, hop, h1, h2, Sem.run_bind, guard_scalar _ t x y _ _ (.inr (.inr ⟨_, rfl⟩)), Result.andThen_ok, binOp, Op.equal, Op.maxDepth, run_equalIn_bool' W 9999 t a b ht.und, Sem.run_pure], .d _ _ (.bl _)⟩⟩
  ·exact h.elim
 ·rename_i k1 cs k2 ds
  split at h
  case h_2 => exact h.elim
  rename_i ty hty
  obtain ⟨tu, i, ht⟩ := tyOf_ok (hti _ _ hty)
  split at h
  case h_2 => exact h.elim
  rename_i z hz
  cases hl : (ty.kd.agg && (likes z cs && likes z ds)) with
  | false => rw [hl] at h; exact h.elim
  | true =>
   rw [hl] at h
   simp only [cond_true, Bool.and_eq_true] at h hl
   have hcmp := ht.cmp
   rw [hz] at hcmp
   cases hg : P.eqGuardType P.depth t with
   | true => rw [hg] at hcmp; cases hcmp
   | false =>
    rw [hg] at hcmp
    obtain ⟨u', i', e1, e2, e3, e4, e5⟩ := flatK_ok 6 t z hcmp.symm
    have run : ∀ (κ : Ctx) (g : Gh) (A : Act) (W : World), Inv κ g mem W → (∀ x ∈ o.op.operands.toList, ∀ v, r x = some v → AVR g v (A.eval x)) → ∃ xs ys, A.eval x = .agg xs ∧ A.eval y = .agg ys ∧ (Op.equalIn 10000 t (.agg xs) (.agg ys)).run P W = .ok (eqDs cs ds) W := by
     intro κ g A W hi ho
     have h1 := ho x mx _ hx
     have h2 := ho y my _ hy
     generalize A.eval x = p at h1
     generalize A.eval y = q at h2
     cases h1 with | dg _ _ xs a1 a2 a3 => ?_
     cases h2 with | dg _ _ ys b1 b2 b3 => ?_
     refine ⟨xs, ys, rfl, rfl, ?_⟩
     obtain ⟨j1, j2, j3, j4, j5⟩ := eqA_of (F := g.F) (xs := xs) (ys := ys) (o := 0) hl.2.1 hl.2.2 (by simpa using a3) (by simpa using b3)
     have hagg : (kdOf u').agg = true := by
      have : some u' = some tu := e1.symm.trans ht.und
      rw [Option.some.inj this, ht.kd]; exact hl.1
     have := e5 10000 (by omega) xs ys (by omega) (by omega) j1 j2 W
     rw [hagg, j3] at this
     exact this
    split at h
    ·exact ⟨_, h, .of_run rfl fun κ g A W hi ho => by
      obtain ⟨xs, ys, q1, q2, q3⟩ := run κ g A W hi ho
      exact ⟨.bool (eqDs cs ds), by simp only [execOp, hop, q1, q2, Sem.run_bind, run_eqGuard_agg W .eql t x y xs ys hg, Result.andThen_ok, run_eql_struct, q3, Sem.run_pure], .d _ _ (.bl _)⟩⟩
    ·exact ⟨_, h, .of_run rfl fun κ g A W hi ho => by
      obtain ⟨xs, ys, q1, q2, q3⟩ := run κ g A W hi ho
      exact ⟨.bool (!eqDs cs ds), by simp only [execOp, hop, q1, q2, Sem.run_bind, run_eqGuard_agg W .neq t x y xs ys hg, Result.andThen_ok, run_neq_struct, q3, Sem.run_pure], .d _ _ (.bl _)⟩⟩
    ·exact h.elim
 ·exact h.elim
theorem does_not {t : Nat} {x : Operand} {b : Bool} (hop : o.op = .unOp .not t x) (hx : r x = some (.d (.bl b))) : Does P mem nx r o (.d (.bl !b)) :=
 .of_run rfl fun κ g A W hi ho => ⟨_, by
  have h1 := evalBool (ho x (by simp [hop, Op.operands]) _ hx)
  simp only [execOp, hop, h1, Op.unary, Sem.run_bind, Sem.run_pure, Result.andThen_ok], .d _ _ (.bl _)⟩
theorem does_neg {t : Nat} {x : Operand} {k : IntKind} {n : Int} (hop : o.op = .unOp .neg t x) (hx : r x = some (.d (.it k n))) : Does P mem nx r o (.d (.it k (k.wrap (0 - n)))) :=
 .of_run rfl fun κ g A W hi ho => ⟨_, by
  have h1 := evalInt (ho x (by simp [hop, Op.operands]) _ hx)
  simp only [execOp, hop, h1, Op.unary, Op.intArith, Sem.run_bind, Sem.run_pure, Result.andThen_ok], .d _ _ (.it _ _)⟩
theorem does_conv_int {s t : Nat} {x : Operand} {sty ty : Ty} {l k j : IntKind} {n : Int} (hti : TiOK P ti) (hop : o.op = .convert s t x) (hs : ti s = some sty) (hsk : sty.kd = .int l) (ht : ti t = some ty) (hk : ty.kd = .int k) (hx : r x = some (.d (.it j n))) : Does P mem nx r o (.d (.it k (k.wrap n))) := by
 obtain ⟨u, i, hs⟩ := tyOf_ok (hti _ _ hs)
 obtain ⟨u', i', ht⟩ := tyOf_ok (hti _ _ ht)
 obtain rfl := int_of hs hsk
 obtain rfl := int_of ht hk
 exact .of_run rfl fun κ g A W hi ho => ⟨_, by
  have h1 := evalInt (ho x (by simp [hop, Op.operands]) _ hx)
  simp only [execOp, hop, h1, convert, Conv.intToInt, Sem.run_bind, run_underlying hs.und, run_underlying ht.und, Sem.run_pure, Result.andThen_ok], .d _ _ (.it _ _)⟩
theorem does_conv_str {s t : Nat} {x : Operand} {sty ty : Ty} {l : List UInt8} (hti : TiOK P ti) (hop : o.op = .convert s t x) (hs : ti s = some sty) (hsk : sty.kd = .string) (ht : ti t = some ty) (hk : ty.kd = .string) (hx : r x = some (.d (.st l))) : Does P mem nx r o (.d (.st l)) := by
 obtain ⟨u, i, hs⟩ := tyOf_ok (hti _ _ hs)
 obtain ⟨u', i', ht⟩ := tyOf_ok (hti _ _ ht)
 obtain rfl := string_of hs hsk
 obtain rfl := string_of ht hk
 exact .of_run rfl fun κ g A W hi ho => ⟨_, by
  have h1 := evalStr (ho x (by simp [hop, Op.operands]) _ hx)
  simp only [execOp, hop, h1, convert, Sem.run_bind, run_underlying hs.und, run_underlying ht.und, Sem.run_pure, Result.andThen_ok], .d _ _ (.st _)⟩
theorem fold_bytes : ∀ (l : List UInt8) (acc : ByteArray), (l.map fun b => (b.toNat : Int)).foldl (fun r n => r.push (UInt8.ofNat n.toNat)) acc = acc ++ ⟨l.toArray⟩
 | [], acc => by
  simp only [List.map_nil, List.foldl_nil]
  apply ByteArray.ext; simp [ByteArray.data_append]
 | b :: l, acc => by
  simp only [List.map_cons, List.foldl_cons]
  rw [fold_bytes l]
  apply ByteArray.ext
  simp [ByteArray.data_append, ByteArray.data_push]
theorem does_conv_bytes {s t e : Nat} {x : Operand} {sty ty ety : Ty} {v : AV} {es : List (List D)} {l : List UInt8} (hti : TiOK P ti) (hop : o.op = .convert s t x) (hs : ti s = some sty) (hsk : sty.kd = .slice e) (ht : ti t = some ty) (hk : ty.kd = .string) (he : ti e = some ety) (hek : ety.kd = .int .u8)
  (hx : r x = some v) (hv : sliceOf v = some (1, es)) (hl : es = bytesD l) : Does P mem nx r o (.d (.st l)) := by
 obtain ⟨u, i, hs⟩ := tyOf_ok (hti _ _ hs)
 obtain ⟨u', i', ht⟩ := tyOf_ok (hti _ _ ht)
 obtain ⟨u'', i'', he⟩ := tyOf_ok (hti _ _ he)
 obtain rfl := slice_of hs hsk
 obtain rfl := string_of ht hk
 obtain rfl := int_of he hek
 refine .of_run rfl fun κ g A W hi ho => ?_
 have h1 := sliceOf_ok hv (ho x (by simp [hop, Op.operands]) _ hx)
 generalize ha : A.eval x = q at h1
 subst hl
 have main : ∃ ad len cap, q = .slice ad len cap ∧ (Conv.bytesToString (.slice ad len cap)).run P W = .ok (.string ⟨l.toArray⟩) W := by
  generalize hes : bytesD l = es at h1
  cases h1 with
  | fs0 _ ad cap =>
   have hl0 : l = [] := by cases l <;> simp [bytesD] at hes ⊢
   subst hl0
   refine ⟨ad, 0, cap, rfl, ?_⟩
   cases ad with
   | none => rfl
   | some ad =>
    rw [run_bytesToString W ad 0 cap [] (by simp [loadCells, loadCellsFrom])]
    rfl
  | fs _ _ b off len cap vs hl hcap hs' hF hd =>
   subst hes
   have hlen : l.length = len := by simpa [bytesD] using hl
   refine ⟨_, _, _, rfl, ?_⟩
   have hval : ∀ j (h : j < l.length), vs j 0 = .int .u8 l[j].toNat := fun j hj => by
    have hj' : j < (bytesD l).length := by simpa [bytesD] using hj
    have hr := hd j hj' 0 (by simp [bytesD])
    simp only [bytesD, List.getElem_map, List.getElem_cons_zero] at hr
    generalize vs j 0 = z at hr
    cases hr; rfl
   have hld : (loadCells ⟨b, off, none⟩ len).run P W = .ok ((l.map fun b => (b.toNat : Int)).map (Value.int .u8)).toArray W := by
    have := run_loadCells_list (P := P) (w := W) ⟨b, off, none⟩ ((l.map fun b => (b.toNat : Int)).map (Value.int .u8)) (fun j v hj => by
     rw [addr_add]
     have hjl : j < l.length := by
      rcases Nat.lt_or_ge j l.length with h | h
      ·exact h
      ·simp [List.getElem?_eq_none h] at hj
     have hv' : v = .int .u8 l[j].toNat := by simpa [hjl] using hj.symm
     have := hi.frz _ _ _ (hF j 0 (by omega) (by omega))
     rw [hval j hjl] at this
     rw [hv', ← this]; simp)
    simpa [hlen] using this
   rw [run_bytesToString W _ len cap _ hld, fold_bytes]
   congr 2
 obtain ⟨ad, len, cap, rfl, hrun⟩ := main
 exact ⟨_, by simp only [execOp, hop, ha, Sem.run_bind, run_convert_bytes_string W s t e ad len cap hs.und he.und ht.und, hrun, Result.andThen_ok, Sem.run_pure], .d _ _ (.st _)⟩
theorem does_conv_to_bytes {s t e : Nat} {x : Operand} {sty ty ety : Ty} {l : List UInt8} (hti : TiOK P ti) (hop : o.op = .convert s t x) (hs : ti s = some sty) (hsk : sty.kd = .string) (ht : ti t = some ty) (hk : ty.kd = .slice e) (he : ti e = some ety) (hek : ety.kd = .int .u8)
  (hx : r x = some (.d (.st l))) (hmem : ∀ n ob, look n mem = some ob → n < nx ∧ ob.lt nx = true) : Does P mem nx r o (.d (.fs 1 (bytesD l))) := by
 obtain ⟨u, i, hs⟩ := tyOf_ok (hti _ _ hs)
 obtain ⟨u', i', ht⟩ := tyOf_ok (hti _ _ ht)
 obtain ⟨u'', i'', he⟩ := tyOf_ok (hti _ _ he)
 obtain rfl := string_of hs hsk
 obtain rfl := slice_of ht hk
 obtain rfl := int_of he hek
 refine ⟨rfl, fun κ g a w hi ho next Q hn => ?_⟩
 have h1 := evalStr (ho x (by simp [hop, Op.operands]) _ hx)
 have hrun := run_bytes_of_string (P := P) w s t e ⟨l.toArray⟩ hs.und ht.und he.und
 have hsz : (⟨l.toArray⟩ : ByteArray).size = l.length := by simp [ByteArray.size]
 generalize hcap : grownCap w (⟨l.toArray⟩ : ByteArray).size 0 e = cap at hrun
 have hle : l.length ≤ cap := by
  rw [← hcap, ← hsz]
  exact Nat.le_add_right _ _
 have hrow : ∀ j (h : j < l.length), (bytesRow ⟨l.toArray⟩ cap).getD j undef = .int .u8 l[j].toNat := fun j hj => by
  have : j < (bytesRow ⟨l.toArray⟩ cap).size := by simp [bytesRow]; omega
  rw [Array.getD, dif_pos this]
  simp [bytesRow, Array.getElem_append, hj]
 obtain ⟨g', he', hi', hF⟩ := hi.newFrozen (w' := w.drew.alloc (.cells (bytesRow ⟨l.toArray⟩ cap) e ((bytesRow ⟨l.toArray⟩ cap).size, (bytesRow ⟨l.toArray⟩ cap).size + 1))) hmem rfl rfl rfl rfl l.length (by simp [bytesRow])
 have hr2 : (execOp a.eval o).run P w = .ok (.value (.slice (some ⟨w.heap.size, 0, none⟩) (⟨l.toArray⟩ : ByteArray).size cap)) (w.drew.alloc (.cells (bytesRow ⟨l.toArray⟩ cap) e ((bytesRow ⟨l.toArray⟩ cap).size, (bytesRow ⟨l.toArray⟩ cap).size + 1))) := by
  simp only [execOp, hop, h1, Sem.run_bind, hrun, Result.andThen_ok, Sem.run_pure]
 refine wp_value hr2 (hn g' _ _ he' hi' (.d _ _ ?_))
 rw [hsz]
 refine .fs _ _ _ _ _ _ (fun i _ => .int .u8 (l.getD i 0).toNat) (by simp [bytesD]) hle (fun j hj => by simp [bytesD]) (fun i j hi hj => ?_) fun i hi j hj => ?_
 ·rw [show 0 + i * 1 + j = i by omega, hF i hi, hrow i hi]
  simp [List.getD, hi]
 ·have hi' : i < l.length := by simpa [bytesD] using hi
  simp only [bytesD, List.getElem_map, List.length_cons, List.length_nil] at hj ⊢
  obtain rfl : j = 0 := by omega
  simp only [List.getElem_cons_zero, List.getD, List.getElem?_eq_getElem hi', Option.getD_some]
  exact .it _ _
theorem does_extract {x : Operand} {i : Nat} {vs : List AV} {v : AV} (hop : o.op = .extract x i) (hx : r x = some (.tup vs)) (hl : (AV.tup vs).lt nx = true) (hv : vs[i]? = some v) : Does P mem nx r o v := by
 have hlt : i < vs.length := by
  rcases Nat.lt_or_ge i vs.length with h | h
  ·exact h
  ·rw [List.getElem?_eq_none h] at hv; cases hv
 have hv' : vs[i] = v := by rw [List.getElem?_eq_getElem hlt] at hv; exact Option.some.inj hv
 refine .of_run ?_ fun κ g A W hi ho => ?_
 ·simp only [AV.lt, List.all_eq_true] at hl
  have := hl v (by rw [← hv']; exact List.getElem_mem _)
  cases v <;> first | exact this | cases this
 ·have h1 := ho x (by simp [hop, Op.operands]) _ hx
  generalize ha : A.eval x = q at h1
  cases h1 with | tup _ us e1 e2 => ?_
  refine ⟨us.getD i undef, ?_, by rw [← hv']; exact e2 i hlt⟩
  have : us[i]? = some (us.getD i undef) := by simp [Array.getD, show i < us.size by omega]
  simp only [execOp, hop, ha, Instr.extract, this, Sem.run_bind, Sem.run_pure, Result.andThen_ok]
end
end Go.Sy
namespace Go.Sy
def LR (F : Nat → Nat → Option Value) (cs : List D) (vs : Array Value) : Prop := cs.length = vs.size ∧ ∀ j (h : j < cs.length), DR F cs[j] (vs.getD j undef)
def LX {α : Type} (R : α → Value → Prop) (cs : List α) (vs : Array Value) : Prop := cs.length = vs.size ∧ ∀ j (h : j < cs.length), R cs[j] (vs.getD j undef)
theorem foldl_set : ∀ (xs : List Value) (k off : Nat) (cells : Array Value), ((xs.zipIdx k).foldl (fun cs (c, j) => cs.setIfInBounds (off + j) c) cells).size = cells.size ∧
  (off + k + xs.length ≤ cells.size → ∀ i, ((xs.zipIdx k).foldl (fun cs (c, j) => cs.setIfInBounds (off + j) c) cells).getD i undef = if off + k ≤ i ∧ i < off + k + xs.length then xs.getD (i - (off + k)) undef else cells.getD i undef)
 | [], k, off, cells => by
  refine ⟨rfl, fun _ i => ?_⟩
  rw [if_neg (by simp only [List.length_nil]; omega)]; rfl
 | x :: xs, k, off, cells => by
  have ih := foldl_set xs (k + 1) off (cells.setIfInBounds (off + k) x)
  simp only [List.zipIdx_cons, List.foldl_cons]
  refine ⟨ih.1.trans (by simp), fun h i => ?_⟩
  simp only [List.length_cons] at h
  rw [ih.2 (by simp; omega)]
  by_cases h1 : off + (k + 1) ≤ i ∧ i < off + (k + 1) + xs.length
  ·rw [if_pos h1, if_pos (by simp; omega)]
   rw [show i - (off + k) = i - (off + (k + 1)) + 1 by omega]; rfl
  ·rw [if_neg h1]
   by_cases h2 : i = off + k
   ·subst h2
    rw [if_pos (by simp)]
    simp [Array.getD, show off + k < cells.size by omega]
   ·rw [if_neg (by simp; omega)]
    simp only [Array.getD, Array.size_setIfInBounds]
    by_cases h3 : i < cells.size
    ·simp [h3, Array.getElem_setIfInBounds, show ¬ off + k = i by omega]
    ·simp [h3]
theorem fill_ok {α : Type} {R : α → Value → Prop} {place : Nat → Option (Nat × Nat)} : ∀ (ps : List (Nat × Nat × List α)) (vs : List (Nat × Value)) (z z' : List α) (cells : Array Value), LX R z cells → fillD place z ps = some z' → vs.length = ps.length →
  (∀ j (h : j < ps.length) (h' : j < vs.length), vs[j].1 = ps[j].1 ∧ vs[j].2.cells.size = ps[j].2.1 ∧ ps[j].2.2.length = ps[j].2.1 ∧ LX R ps[j].2.2 vs[j].2.cells) → (∀ i o s, place i = some (o, s) → o + s ≤ cells.size) →
  ∃ cells', Instr.fill place cells vs = some cells' ∧ LX R z' cells' ∧ cells'.size = cells.size
 | [], vs, z, z', cells, hz, h, hl, _, _ => by
  cases vs with
  | nil => obtain rfl := Option.some.inj h; exact ⟨cells, rfl, hz, rfl⟩
  | cons => simp at hl
 | (i, k, l) :: ps, [], z, z', cells, hz, h, hl, _, _ => by simp at hl
 | (i, k, l) :: ps, (i', v) :: vs, z, z', cells, hz, h, hl, hp, hpl => by
  have h0 := hp 0 (by simp) (by simp)
  simp only [List.getElem_cons_zero] at h0
  obtain ⟨rfl, e2, e3, e4⟩ := h0
  simp only [fillD] at h
  split at h
  case h_2 => cases h
  rename_i off size hpi
  cases hk : Nat.beq k size with
  | false => rw [hk] at h; cases h
  | true =>
   rw [hk] at h
   simp only [cond_true] at h
   obtain rfl := Nat.eq_of_beq_eq_true hk
   have hb := hpl _ _ _ hpi
   have hf := foldl_set v.cells.toList 0 off cells
   have hfold : v.cells.zipIdx.foldl (fun cs (c, j) => cs.setIfInBounds (off + j) c) cells = (v.cells.toList.zipIdx 0).foldl (fun cs (c, j) => cs.setIfInBounds (off + j) c) cells := by
    rw [← Array.foldl_toList, Array.toList_zipIdx]
   have hsz : v.cells.toList.length = k := by simpa using e2
   have hLR : LX R (z.take off ++ l ++ z.drop (off + k)) (v.cells.zipIdx.foldl (fun cs (c, j) => cs.setIfInBounds (off + j) c) cells) := by
    rw [hfold]
    have hzl := hz.1
    refine ⟨by rw [hf.1]; simp [e3]; omega, fun j hj => ?_⟩
    rw [hf.2 (by omega)]
    simp only [List.length_append, List.length_take, List.length_drop] at hj
    by_cases h1 : j < off
    ·rw [if_neg (by omega)]
     have : (z.take off ++ l ++ z.drop (off + k))[j]'(by simp; omega) = z[j]'(by omega) := by
      rw [List.getElem_append_left (by simp; omega), List.getElem_append_left (by simp; omega), List.getElem_take]
     rw [this]; exact hz.2 j (by omega)
    ·by_cases h2 : j < off + k
     ·rw [if_pos (by omega)]
      have : (z.take off ++ l ++ z.drop (off + k))[j]'(by simp; omega) = l[j - off]'(by omega) := by
       rw [List.getElem_append_left (by simp; omega), List.getElem_append_right (by simp; omega)]
       congr 1; simp; omega
      rw [this]
      have := e4.2 (j - off) (by omega)
      rw [show j - (off + 0) = j - off by omega]
      simpa [Array.getD, List.getD, e2, show j - off < k by omega] using this
     ·rw [if_neg (by omega)]
      have : (z.take off ++ l ++ z.drop (off + k))[j]'(by simp; omega) = z[j]'(by omega) := by
       rw [List.getElem_append_right (by simp; omega), List.getElem_drop]
       congr 1; simp; omega
      rw [this]; exact hz.2 j (by omega)
   obtain ⟨cells', r1, r2, r3⟩ := fill_ok ps vs _ z' _ hLR h (by simpa using hl) (fun j h h' => hp (j + 1) (by simpa using h) (by simpa using h')) (fun i o s h => by rw [hfold, hf.1]; exact hpl _ _ _ h)
   refine ⟨cells', ?_, r2, by rw [r3, hfold, hf.1]⟩
   simp only [Instr.fill, hpi]
   rw [if_neg (by rw [e2]; simp; omega)]
   exact r1
theorem one_cells {v : Value} (h : v.oneCell' = true) : v.cells = #[v] := by
 cases v <;> first | rfl | cases h
theorem cellsD_ok {g : Gh} {v : AV} {u : Value} {k : Nat} {l : List D} (h : cellsD v = some (k, l)) (hu : AVR g v u) : u.cells.size = k ∧ l.length = k ∧ LR g.F l u.cells := by
 have one : ∀ {x : D}, DR g.F x u → u.cells.size = 1 ∧ ([x] : List D).length = 1 ∧ LR g.F [x] u.cells := fun {x} hx => by
  rw [one_cells hx.one]
  exact ⟨rfl, rfl, rfl, fun j hj => by
   have hj0 : j = 0 := by simpa using hj
   subst hj0; exact hx⟩
 cases v <;> simp only [cellsD] at h <;> first | (cases h; done) | skip
 ·simp only [Option.some.injEq, Prod.mk.injEq] at h; obtain ⟨rfl, rfl⟩ := h
  cases hu with | d _ _ hx => exact one hx
 ·simp only [Option.some.injEq, Prod.mk.injEq] at h; obtain ⟨rfl, rfl⟩ := h
  cases hu with | dg _ _ vs h1 h2 h3 => exact ⟨h1, h2, h2.trans h1.symm, h3⟩
 ·rename_i k' cs
  split at h
  ·rename_i l' hl
   simp only [Option.some.injEq, Prod.mk.injEq] at h; obtain ⟨rfl, rfl⟩ := h
   cases hu with
   | ag _ _ vs h1 h2 h3 h4 =>
    obtain ⟨i1, i2⟩ := frzL_ok (g := g) hl
    exact ⟨h1, i1.trans h2, i1.trans (h2.trans h1.symm), fun j hj => i2 (fun j => vs.getD j undef) h4 j hj⟩
  ·cases h
 ·simp only [Option.some.injEq, Prod.mk.injEq] at h; obtain ⟨rfl, rfl⟩ := h
  refine one ?_
  cases hu with
  | ts0 => assumption
  | ts => assumption
 ·simp only [Option.some.injEq, Prod.mk.injEq] at h; obtain ⟨rfl, rfl⟩ := h
  cases hu; exact one (by assumption)
 ·simp only [Option.some.injEq, Prod.mk.injEq] at h; obtain ⟨rfl, rfl⟩ := h
  cases hu; exact one (.fs0 _ _ _)
theorem partsD_ok {g : Gh} {a : Act} {r : Operand → Option AV} : ∀ {parts : List (Nat × Operand)} {ps : List (Nat × Nat × List D)}, partsD r parts = some ps → (∀ p ∈ parts, ∀ v, r p.2 = some v → AVR g v (a.eval p.2)) →
  (parts.map fun p => (p.1, a.eval p.2)).length = ps.length ∧ ∀ j (h : j < ps.length) (h' : j < (parts.map fun p => (p.1, a.eval p.2)).length), (parts.map fun p => (p.1, a.eval p.2))[j].1 = ps[j].1 ∧ (parts.map fun p => (p.1, a.eval p.2))[j].2.cells.size = ps[j].2.1 ∧ ps[j].2.2.length = ps[j].2.1 ∧ LR g.F ps[j].2.2 (parts.map fun p => (p.1, a.eval p.2))[j].2.cells
 | [], ps, h, _ => by obtain rfl := Option.some.inj h; exact ⟨rfl, fun j h => by cases h⟩
 | (i, x) :: t, ps, h, ho => by
  simp only [partsD] at h
  split at h
  ·rename_i k l rest h1 h2
   obtain rfl := Option.some.inj h
   obtain ⟨i1, i2⟩ := partsD_ok (g := g) (a := a) h2 (fun p hp => ho p (List.mem_cons_of_mem _ hp))
   cases hx : r x with
   | none => rw [hx] at h1; cases h1
   | some v =>
    rw [hx] at h1
    have hc := cellsD_ok (g := g) (by simpa using h1) (ho (i, x) List.mem_cons_self v hx)
    refine ⟨by simpa using i1, fun j h h' => ?_⟩
    cases j with
    | zero => exact ⟨rfl, hc.1, hc.2.1, hc.2.2⟩
    | succ j => exact i2 j (by simpa using h) (by simpa using h')
  ·cases h
theorem zeroL_ok {g : Gh} {z : Option Value} {h : List Nat} (h0 : 0 < (zeroL z h).length) : ∃ v, z = some v ∧ LR g.F (zeroL z h) v.cells ∧ LX (AVR g) ((zeroL z h).map toA) v.cells := by
 cases z with
 | none => cases h0
 | some v =>
  simp only [zeroL] at h0 ⊢
  cases ha : v.cells.toList.all Value.oneCell' with
  | false => rw [ha] at h0; cases h0
  | true =>
   simp only [cond_true]
   have key : ∀ j (hj : j < v.cells.size), (v.cells.getD j undef).oneCell' = true ∧ v.cells.getD j undef = v.cells.toList[j]'(by simpa using hj) := fun j hj => by
    have e : v.cells.getD j undef = v.cells[j] := by simp [Array.getD, hj]
    rw [e]
    exact ⟨List.all_eq_true.1 ha _ (by simp), by simp⟩
   refine ⟨v, rfl, ⟨by simp [zl_length], fun j hj => ?_⟩, ⟨by simp [zl_length], fun j hj => ?_⟩⟩
   ·have hj' : j < v.cells.size := by simpa [zl_length] using hj
    obtain ⟨sz, e⟩ := zl_get v.cells.toList h j hj (by simpa using hj')
    rw [e, (key j hj').2]
    exact zeroD_ok g.F sz _ ((key j hj').2 ▸ (key j hj').1)
   ·have hj' : j < v.cells.size := by simpa [zl_length] using hj
    simp only [List.getElem_map]
    obtain ⟨sz, e⟩ := zl_get v.cells.toList h j (by simpa [zl_length] using hj') (by simpa using hj')
    rw [e, (key j hj').2]
    exact zeroA_ok g sz _ ((key j hj').2 ▸ (key j hj').1)
theorem sc_one {g : Gh} {v : AV} {u : Value} (h : AVR g v u) (hs : v.sc = true) : u.cells = #[u] := one_cells (h.one hs)
theorem cellsA_ok {g : Gh} {v : AV} {u : Value} {k m : Nat} {l : List AV} (h : cellsA v = some (k, l)) (hu : AVR g v u) (hl : v.lt m = true) :
  u.cells.size = k ∧ l.length = k ∧ (∀ j (h : j < l.length), l[j].sc = true) ∧ (∀ x ∈ l, x.lt1 m = true) ∧ (∀ j (h : j < l.length), AVR g l[j] (u.cells.getD j undef)) := by
 have one : v.sc = true → k = 1 → l = [v] → v.lt1 m = true → u.cells.size = k ∧ l.length = k ∧ (∀ j (h : j < l.length), l[j].sc = true) ∧ (∀ x ∈ l, x.lt1 m = true) ∧ (∀ j (h : j < l.length), AVR g l[j] (u.cells.getD j undef)) := by
  rintro hs rfl rfl hl1
  rw [sc_one hu hs]
  refine ⟨rfl, rfl, fun j hj => ?_, fun x hx => ?_, fun j hj => ?_⟩
  ·obtain rfl : j = 0 := by simp at hj; exact hj
   exact hs
  ·simp only [List.mem_singleton] at hx; subst hx; exact hl1
  ·obtain rfl : j = 0 := by simp at hj; exact hj
   exact hu
 cases v with
 | dg k' cs =>
  simp only [cellsA, Option.some.injEq, Prod.mk.injEq] at h; obtain ⟨rfl, rfl⟩ := h
  cases hu with
  | dg _ _ vs h1 h2 h3 =>
   refine ⟨h1, by simpa using h2, fun j hj => by simp [AV.sc], fun x hx => ?_, fun j hj => ?_⟩
   ·obtain ⟨y, _, rfl⟩ := List.mem_map.1 hx; rfl
   ·simp only [List.length_map] at hj
    simp only [List.getElem_map]
    exact .d _ _ (h3 j hj)
 | ag k' cs =>
  simp only [cellsA, Option.some.injEq, Prod.mk.injEq] at h; obtain ⟨rfl, rfl⟩ := h
  simp only [AV.lt, AV.lt2, List.all_eq_true] at hl
  cases hu with
  | ag _ _ vs h1 h2 h3 h4 => exact ⟨h1, h2, h3, hl, h4⟩
 | tup vs => cases h
 | junk => cases h
 | _ =>
  simp only [cellsA, Option.some.injEq, Prod.mk.injEq] at h
  exact one rfl h.1.symm h.2.symm hl
theorem partsA_ok {g : Gh} {a : Act} {r : Operand → Option AV} {m : Nat} : ∀ {parts : List (Nat × Operand)} {ps : List (Nat × Nat × List AV)}, partsA r parts = some ps → (∀ p ∈ parts, ∀ v, r p.2 = some v → AVR g v (a.eval p.2) ∧ v.lt m = true) →
  (parts.map fun p => (p.1, a.eval p.2)).length = ps.length ∧ (∀ p ∈ ps, (∀ x ∈ p.2.2, x.sc = true ∧ x.lt1 m = true)) ∧ ∀ j (h : j < ps.length) (h' : j < (parts.map fun p => (p.1, a.eval p.2)).length), (parts.map fun p => (p.1, a.eval p.2))[j].1 = ps[j].1 ∧ (parts.map fun p => (p.1, a.eval p.2))[j].2.cells.size = ps[j].2.1 ∧ ps[j].2.2.length = ps[j].2.1 ∧ LX (AVR g) ps[j].2.2 (parts.map fun p => (p.1, a.eval p.2))[j].2.cells
 | [], ps, h, _ => by obtain rfl := Option.some.inj h; exact ⟨rfl, (fun p hp => by cases hp), fun j h => by cases h⟩
 | (i, x) :: t, ps, h, ho => by
  simp only [partsA] at h
  split at h
  ·rename_i k l rest h1 h2
   obtain rfl := Option.some.inj h
   obtain ⟨i1, i2, i3⟩ := partsA_ok (g := g) (a := a) (m := m) h2 (fun p hp => ho p (List.mem_cons_of_mem _ hp))
   cases hx : r x with
   | none => rw [hx] at h1; cases h1
   | some v =>
    rw [hx] at h1
    obtain ⟨o1, o2⟩ := ho (i, x) List.mem_cons_self v hx
    obtain ⟨q1, q2, q3, q4, q5⟩ := cellsA_ok (g := g) (m := m) (by simpa using h1) o1 o2
    refine ⟨by simpa using i1, fun p hp => ?_, fun j h h' => ?_⟩
    ·rcases List.mem_cons.1 hp with rfl | hp
     ·intro y hy
      obtain ⟨j, hj, rfl⟩ := List.mem_iff_getElem.1 hy
      exact ⟨q3 j hj, q4 _ hy⟩
     ·exact i2 p hp
    ·cases j with
     | zero => exact ⟨rfl, q1, q2, ⟨q2.trans q1.symm, q5⟩⟩
     | succ j => exact i3 j (by simpa using h) (by simpa using h')
  ·cases h
theorem cellsA_lt {v : AV} {k m : Nat} {l : List AV} (h : cellsA v = some (k, l)) (hl : v.lt m = true) : ∀ x ∈ l, x.lt1 m = true := by
 cases v with
 | dg k' cs =>
  simp only [cellsA, Option.some.injEq, Prod.mk.injEq] at h; obtain ⟨rfl, rfl⟩ := h
  intro x hx
  obtain ⟨y, _, rfl⟩ := List.mem_map.1 hx; rfl
 | ag k' cs =>
  simp only [cellsA, Option.some.injEq, Prod.mk.injEq] at h; obtain ⟨rfl, rfl⟩ := h
  simpa only [AV.lt, AV.lt2, List.all_eq_true] using hl
 | tup vs => cases h
 | junk => cases h
 | _ =>
  simp only [cellsA, Option.some.injEq, Prod.mk.injEq] at h
  obtain ⟨rfl, rfl⟩ := h
  intro x hx
  simp only [List.mem_singleton] at hx; subst hx; exact hl
theorem partsA_lt {r : Operand → Option AV} {m : Nat} : ∀ {parts : List (Nat × Operand)} {ps : List (Nat × Nat × List AV)}, partsA r parts = some ps → (∀ x v, r x = some v → v.lt m = true) → ∀ p ∈ ps, ∀ x ∈ p.2.2, x.lt1 m = true
 | [], ps, h, _ => by obtain rfl := Option.some.inj h; exact fun p hp => by cases hp
 | (i, x) :: t, ps, h, ho => by
  simp only [partsA] at h
  split at h
  ·rename_i k l rest h1 h2
   obtain rfl := Option.some.inj h
   intro p hp
   rcases List.mem_cons.1 hp with rfl | hp
   ·cases hx : r x with
    | none => rw [hx] at h1; cases h1
    | some v => rw [hx] at h1; exact cellsA_lt (by simpa using h1) (ho x v hx)
   ·exact partsA_lt h2 ho p hp
  ·cases h
theorem fillD_all {α : Type} {Q : α → Prop} {place : Nat → Option (Nat × Nat)} : ∀ {ps : List (Nat × Nat × List α)} {z z' : List α}, fillD place z ps = some z' → (∀ x ∈ z, Q x) → (∀ p ∈ ps, ∀ x ∈ p.2.2, Q x) → ∀ x ∈ z', Q x
 | [], z, z', h, hz, _ => by obtain rfl := Option.some.inj h; exact hz
 | (i, k, l) :: ps, z, z', h, hz, hp => by
  simp only [fillD] at h
  split at h
  case h_2 => cases h
  rename_i off size hpi
  cases hk : Nat.beq k size with
  | false => rw [hk] at h; cases h
  | true =>
   rw [hk] at h
   refine fillD_all h (fun x hx => ?_) fun p hp' => hp p (List.mem_cons_of_mem _ hp')
   rcases List.mem_append.1 hx with hx | hx
   ·rcases List.mem_append.1 hx with hx | hx
    ·exact hz x (List.mem_of_mem_take hx)
    ·exact hp _ List.mem_cons_self x hx
   ·exact hz x (List.mem_of_mem_drop hx)
section
variable {P : Program} {ti : Nat → Option Ty} {mem : List (Nat × Ob)} {nx : Nat} {r : Operand → Option AV} {o : Oper} {K : AV → Prop}
theorem does_build_struct {t : Nat} {parts : Array (Nat × Operand)} {ty : Ty} {fs : List (Nat × Nat)} {ps : List (Nat × Nat × List D)} {l : List D} (hti : TiOK P ti) (hop : o.op = .build t parts) (ht : ti t = some ty) (hk : ty.kd = .struct fs) (hp : partsD r parts.toList = some ps)
  (hz : ty.zero.length = ty.size) (h0 : 0 < ty.size) (hpl : ty.pl.all (fun p => Nat.ble (p.1 + p.2) ty.size) = true) (hf : fillD (fun i => ty.pl[i]?) ty.zero ps = some l) : Does P mem nx r o (.dg ty.size l) := by
 obtain ⟨u, i, ht⟩ := tyOf_ok (hti _ _ ht)
 obtain ⟨fields, rfl, hfl⟩ := fields_of ht hk
 refine .of_run rfl fun κ g a w hi ho => ?_
 obtain ⟨p1, p2⟩ := partsD_ok (g := g) (a := a) hp (fun p hp v hv => ho p.2 (by simp only [hop, Op.operands, List.mem_map]; exact ⟨p, hp, rfl⟩) v hv)
 obtain ⟨zv, hzv, hLR, hLA⟩ := zeroL_ok (g := g) (z := i.zero) (h := slH P 6 t) (by rw [ht.zero]; omega)
 rw [ht.zero] at hLR hLA
 have hcs : zv.cells.size = ty.size := by rw [← hLR.1, hz]
 obtain ⟨cells, q1, q2, q3⟩ := fill_ok (R := DR g.F) ps (parts.toList.map fun p => (p.1, a.eval p.2)) ty.zero l zv.cells hLR hf p1 p2 (fun i o s h => by
  have h' : ty.pl[i]? = some (o, s) := h
  have hm : (o, s) ∈ ty.pl := List.mem_of_getElem? h'
  have := List.all_eq_true.1 hpl _ hm
  rw [hcs]; simpa using this)
 have hb : P.built t (parts.map fun (i, x) => (i, a.eval x)).toList = some cells := by
  have hpl' : fields.toList.mapM (fun f => (P.info? f.type).map fun i => (f.offset, i.size)) = some ty.pl := ht.pl
  simp only [Program.built, ht.info, ht.und, hzv, hpl', Array.toList_map]
  rw [← q1]
  congr 1
  funext i
  simp
 refine ⟨.agg cells, by simp only [execOp, hop, Sem.run_bind, run_build w t _ cells hb, Result.andThen_ok, Sem.run_pure], .dg _ _ _ (by omega) (by rw [q2.1]; omega) q2.2⟩
theorem does_build_structA {t : Nat} {parts : Array (Nat × Operand)} {ty : Ty} {fs : List (Nat × Nat)} {ps : List (Nat × Nat × List AV)} {l : List AV} (hti : TiOK P ti) (hop : o.op = .build t parts) (ht : ti t = some ty) (hk : ty.kd = .struct fs) (hp : partsA r parts.toList = some ps) (hlt : ∀ x v, r x = some v → v.lt nx = true)
  (hz : ty.zero.length = ty.size) (h0 : 0 < ty.size) (hpl : ty.pl.all (fun p => Nat.ble (p.1 + p.2) ty.size) = true) (hf : fillD (fun i => ty.pl[i]?) (ty.zero.map toA) ps = some l) : Does P mem nx r o (.ag ty.size l) := by
 obtain ⟨u, i, ht⟩ := tyOf_ok (hti _ _ ht)
 obtain ⟨fields, rfl, hfl⟩ := fields_of ht hk
 have hall : ∀ (g : Gh) (a : Act), (∀ p ∈ parts.toList, ∀ v, r p.2 = some v → AVR g v (a.eval p.2) ∧ v.lt nx = true) → ∀ x ∈ l, x.sc = true ∧ x.lt1 nx = true := fun g a h => by
  obtain ⟨p1, p2, p3⟩ := partsA_ok (g := g) (a := a) (m := nx) hp h
  refine fillD_all (Q := fun x => x.sc = true ∧ x.lt1 nx = true) hf (fun x hx => ?_) p2
  obtain ⟨y, _, rfl⟩ := List.mem_map.1 hx
  exact ⟨toA_sc _, toA_lt _ _⟩
 have hlt' : (AV.ag ty.size l).lt nx = true := by
  simp only [AV.lt, AV.lt2, List.all_eq_true]
  refine fillD_all (Q := fun x => x.lt1 nx = true) hf (fun x hx => ?_) (partsA_lt hp hlt)
  obtain ⟨y, _, rfl⟩ := List.mem_map.1 hx
  exact toA_lt _ _
 refine .of_run hlt' fun κ g a w hi ho => ?_
 have hops : ∀ p ∈ parts.toList, ∀ v, r p.2 = some v → AVR g v (a.eval p.2) ∧ v.lt nx = true := fun p hp v hv => ⟨ho p.2 (by simp only [hop, Op.operands, List.mem_map]; exact ⟨p, hp, rfl⟩) v hv, hlt _ _ hv⟩
 obtain ⟨p1, p2, p3⟩ := partsA_ok (g := g) (a := a) (m := nx) hp hops
 obtain ⟨zv, hzv, hLR, hLA⟩ := zeroL_ok (g := g) (z := i.zero) (h := slH P 6 t) (by rw [ht.zero]; omega)
 rw [ht.zero] at hLR hLA
 have hcs : zv.cells.size = ty.size := by rw [← hLR.1, hz]
 obtain ⟨cells, q1, q2, q3⟩ := fill_ok (R := AVR g) ps (parts.toList.map fun p => (p.1, a.eval p.2)) _ l zv.cells hLA hf p1 p3 (fun i o s h => by
  have h' : ty.pl[i]? = some (o, s) := h
  have hm : (o, s) ∈ ty.pl := List.mem_of_getElem? h'
  have := List.all_eq_true.1 hpl _ hm
  rw [hcs]; simpa using this)
 have hb : P.built t (parts.map fun (i, x) => (i, a.eval x)).toList = some cells := by
  have hpl' : fields.toList.mapM (fun f => (P.info? f.type).map fun i => (f.offset, i.size)) = some ty.pl := ht.pl
  simp only [Program.built, ht.info, ht.und, hzv, hpl', Array.toList_map]
  rw [← q1]
  congr 1
  funext i
  simp
 exact ⟨.agg cells, by simp only [execOp, hop, Sem.run_bind, run_build w t _ cells hb, Result.andThen_ok, Sem.run_pure], .ag _ _ _ (by omega) (by rw [q2.1]; omega) (fun j hj => (hall g a hops _ (List.getElem_mem hj)).1) q2.2⟩
theorem does_build_arr {t n e : Nat} {parts : Array (Nat × Operand)} {ty ety : Ty} {ps : List (Nat × Nat × List D)} {l : List D} (hti : TiOK P ti) (hop : o.op = .build t parts) (ht : ti t = some ty) (hk : ty.kd = .arr n e) (he : ti e = some ety) (hp : partsD r parts.toList = some ps)
  (hz : ty.zero.length = ty.size) (h0 : 0 < ty.size) (hpl : ps.all (fun p => Nat.ble (p.1 * ety.size + ety.size) ty.size) = true) (hf : fillD (fun i => bif Nat.ble (i * ety.size + ety.size) ty.size then some (i * ety.size, ety.size) else none) ty.zero ps = some l) : Does P mem nx r o (.dg ty.size l) := by
 obtain ⟨u, i, ht⟩ := tyOf_ok (hti _ _ ht)
 obtain ⟨ue, ie, het⟩ := tyOf_ok (hti _ _ he)
 obtain rfl := arr_of ht hk
 refine .of_run rfl fun κ g a w hi ho => ?_
 obtain ⟨p1, p2⟩ := partsD_ok (g := g) (a := a) hp (fun p hp v hv => ho p.2 (by simp only [hop, Op.operands, List.mem_map]; exact ⟨p, hp, rfl⟩) v hv)
 obtain ⟨zv, hzv, hLR, hLA⟩ := zeroL_ok (g := g) (z := i.zero) (h := slH P 6 t) (by rw [ht.zero]; omega)
 rw [ht.zero] at hLR hLA
 have hcs : zv.cells.size = ty.size := by rw [← hLR.1, hz]
 obtain ⟨cells, q1, q2, q3⟩ := fill_ok (R := DR g.F) ps (parts.toList.map fun p => (p.1, a.eval p.2)) ty.zero l zv.cells hLR hf p1 p2 (fun i o s h => by
  cases hb : Nat.ble (i * ety.size + ety.size) ty.size with
  | false => simp only [hb, cond_false] at h; cases h
  | true =>
   simp only [hb, cond_true, Option.some.injEq, Prod.mk.injEq] at h
   obtain ⟨rfl, rfl⟩ := h
   rw [hcs]; simpa using hb)
 have hfill : ∀ (vs : List (Nat × Value)) (c : Array Value) (c' : Array Value), Instr.fill (fun i => bif Nat.ble (i * ety.size + ety.size) ty.size then some (i * ety.size, ety.size) else none) c vs = some c' → Instr.fill (fun i => some (i * ety.size, ety.size)) c vs = some c' := by
  intro vs
  induction vs with
  | nil => exact fun _ _ h => h
  | cons p vs ih =>
   intro c c' h
   obtain ⟨i, v⟩ := p
   simp only [Instr.fill] at h ⊢
   cases hb : Nat.ble (i * ety.size + ety.size) ty.size with
   | false => simp only [hb, cond_false] at h; cases h
   | true =>
    simp only [hb, cond_true] at h
    split at h
    ·cases h
    ·rename_i hc; rw [if_neg hc]; exact ih _ _ h
 have hb : P.built t (parts.map fun (i, x) => (i, a.eval x)).toList = some cells := by
  simp only [Program.built, ht.info, ht.und, hzv, het.info, Array.toList_map, het.size]
  exact hfill _ _ _ q1
 refine ⟨.agg cells, by simp only [execOp, hop, Sem.run_bind, run_build w t _ cells hb, Result.andThen_ok, Sem.run_pure], .dg _ _ _ (by omega) (by rw [q2.1]; omega) q2.2⟩
end
end Go.Sy
namespace Go.Sy
theorem zeros_length (n : Nat) (z : List D) : (zeros n z).length = n * z.length := by
 induction n with
 | zero => simp [zeros]
 | succ n ih => simp [zeros, ih, Nat.add_mul]; omega
theorem zeros_get (z : List D) : ∀ (n j : Nat) (h : j < (zeros n z).length), ∃ h' : j % z.length < z.length, (zeros n z)[j] = z[j % z.length]
 | 0, j, h => by simp [zeros] at h
 | n + 1, j, h => by
  have hz : 0 < z.length := by
   rcases Nat.eq_zero_or_pos z.length with h0 | h0
   ·simp [zeros_length, h0] at h
   ·exact h0
  refine ⟨Nat.mod_lt _ hz, ?_⟩
  simp only [zeros]
  by_cases hj : j < z.length
  ·rw [List.getElem_append_left hj]; congr 1; exact (Nat.mod_eq_of_lt hj).symm
  ·rw [List.getElem_append_right (by omega)]
   obtain ⟨h1, h2⟩ := zeros_get z n (j - z.length) (by simp only [zeros, List.length_append] at h; omega)
   rw [h2]; congr 1
   rw [← Nat.mod_eq_sub_mod (by omega)]
theorem chunk_length (sz : Nat) : ∀ (n : Nat) (l : List D), (chunk sz n l).length = n
 | 0, _ => rfl
 | n + 1, l => by simp [chunk, chunk_length sz n]
theorem chunk_get (sz : Nat) : ∀ (n : Nat) (l : List D) (i : Nat) (h : i < (chunk sz n l).length), (chunk sz n l)[i] = (l.drop (i * sz)).take sz
 | 0, _, i, h => by simp [chunk] at h
 | n + 1, l, 0, h => by simp [chunk]
 | n + 1, l, i + 1, h => by
  simp only [chunk, List.getElem_cons_succ]
  rw [chunk_get sz n _ i (by simpa [chunk] using h), List.drop_drop]
  congr 2; rw [Nat.add_mul]; omega
section
variable {P : Program} {ti : Nat → Option Ty} {mem : List (Nat × Ob)} {nx : Nat} {r : Operand → Option AV} {o : Oper} {K : AV → Prop}
theorem DR.chunks {F : Nat → Nat → Option Value} {sz n b : Nat} {l : List D} {arr : Array Value} (hl : LR F l arr) (hn : l.length = n * sz) (hF : ∀ o, o < n * sz → F b o = some (arr.getD o undef)) (cap : Nat) (hc : n ≤ cap) :
  DR F (.fs sz (chunk sz n l)) (.slice (some ⟨b, 0, none⟩) n cap) := by
 have bnd : ∀ i j, i < n → j < sz → i * sz + j < n * sz := fun i j hi hj => by
  have : (i + 1) * sz ≤ n * sz := Nat.mul_le_mul_right _ (by omega)
  rw [Nat.add_mul] at this; omega
 refine .fs _ _ _ _ _ _ (fun i j => arr.getD (i * sz + j) undef) (chunk_length sz n l) hc (fun i hi => ?_) (fun i j hi hj => ?_) fun i hi j hj => ?_
 ·rw [chunk_get]
  rw [chunk_length] at hi
  simp only [List.length_take, List.length_drop, hn]
  have : (i + 1) * sz ≤ n * sz := Nat.mul_le_mul_right _ (by omega)
  rw [Nat.add_mul] at this; omega
 ·rw [Nat.zero_add]; exact hF _ (bnd i j hi hj)
 ·have hi' : i < n := by rwa [chunk_length] at hi
  have hj' : j < sz := by rw [chunk_get] at hj; simp at hj; omega
  have e : (chunk sz n l)[i][j] = l[i * sz + j]'(by rw [hn]; exact bnd i j hi' hj') := by
   simp only [chunk_get, List.getElem_take, List.getElem_drop]
  rw [e]; exact hl.2 _ _
theorem run_buildSlice {t e n : Nat} {parts : Array (Nat × Operand)} {ty ety : Ty} {ps : List (Nat × Nat × List D)} {l : List D} (hti : TiOK P ti) (hop : o.op = .buildSlice t n parts) (ht : ti t = some ty) (hk : ty.kd = .slice e) (he : ti e = some ety) (hp : partsD r parts.toList = some ps)
  (hz : ety.zero.length = ety.size) (h0 : 0 < ety.size) (hlim : n * ety.size ≤ 16777216) (hpl : ps.all (fun p => Nat.blt p.1 n) = true) (hf : fillD (fun i => bif Nat.blt i n then some (i * ety.size, ety.size) else none) (zeros n ety.zero) ps = some l)
  {κ : Ctx} {g : Gh} {a : Act} {w : World} (hi : Inv κ g mem w) (ho : ∀ x ∈ o.op.operands.toList, ∀ v, r x = some v → AVR g v (a.eval x)) : ∃ cells : Array Value, cells.size = n * ety.size ∧ LR g.F l cells ∧ (execOp a.eval o).run P w = .ok (.value (.slice (some ⟨w.heap.size, 0, none⟩) n n)) (w.alloc (.cells cells e)) := by
 obtain ⟨u, i, ht⟩ := tyOf_ok (hti _ _ ht)
 obtain ⟨ue, ie, het⟩ := tyOf_ok (hti _ _ he)
 obtain rfl := slice_of ht hk
 obtain ⟨p1, p2⟩ := partsD_ok (g := g) (a := a) hp (fun p hp v hv => ho p.2 (by simp only [hop, Op.operands, List.mem_map]; exact ⟨p, hp, rfl⟩) v hv)
 obtain ⟨zv, hzv, hLR, hLA⟩ := zeroL_ok (g := g) (z := ie.zero) (h := slH P 6 e) (by rw [het.zero]; omega)
 rw [het.zero] at hLR hLA
 have hcs : zv.cells.size = ety.size := by rw [← hLR.1, hz]
 -- the row of zeros
 generalize hrow : (if n * ie.size = 0 then (#[] : Array Value) else zv.cells) = zc
 have hZ : LR g.F (zeros n ety.zero) ((Array.range (n * ety.size)).map (zc[· % zc.size]!)) := by
  refine ⟨by simp [zeros_length, hz], fun j hj => ?_⟩
  have hlen : j < n * ety.size := by simpa [zeros_length, hz] using hj
  have hzc : zc = zv.cells := by
   rw [← hrow, if_neg]; rw [het.size]; omega
  obtain ⟨h1, h2⟩ := zeros_get ety.zero n j hj
  rw [h2]
  have hm : j % ety.size < zv.cells.size := by rw [hcs]; exact Nat.mod_lt _ h0
  have : ((Array.range (n * ety.size)).map (zc[· % zc.size]!)).getD j undef = zv.cells.getD (j % ety.size) undef := by
   rw [hzc]
   have e1 : ∀ (A : Array Value) (h : j < A.size), A.getD j undef = A[j] := fun A h => by rw [Array.getD, dif_pos h]; rfl
   rw [e1 _ (by simpa using hlen), Array.getElem_map, Array.getElem_range, hcs, getElem!_pos zv.cells (j % ety.size) hm, Array.getD, dif_pos hm]; rfl
  rw [this]
  have := hLR.2 (j % ety.zero.length) h1
  simpa only [hz] using this
 obtain ⟨cells, q1, q2, q3⟩ := fill_ok (R := DR g.F) ps (parts.toList.map fun p => (p.1, a.eval p.2)) _ l _ hZ hf p1 p2 (fun i o s h => by
  cases hb : Nat.blt i n with
  | false => simp only [hb, cond_false] at h; cases h
  | true =>
   simp only [hb, cond_true, Option.some.injEq, Prod.mk.injEq] at h
   obtain ⟨rfl, rfl⟩ := h
   simp only [Nat.blt_eq] at hb
   have : (i + 1) * ety.size ≤ n * ety.size := Nat.mul_le_mul_right _ (by omega)
   rw [Nat.add_mul] at this
   simp; omega)
 have hfill : ∀ (vs : List (Nat × Value)) (c c' : Array Value), Instr.fill (fun i => bif Nat.blt i n then some (i * ety.size, ety.size) else none) c vs = some c' → Instr.fill (fun i => some (i * ety.size, ety.size)) c vs = some c' := by
  intro vs
  induction vs with
  | nil => exact fun _ _ h => h
  | cons p vs ih =>
   intro c c' h
   obtain ⟨i, v⟩ := p
   simp only [Instr.fill] at h ⊢
   cases hb : Nat.blt i n with
   | false => simp only [hb, cond_false] at h; cases h
   | true =>
    simp only [hb, cond_true] at h
    split at h
    ·cases h
    ·rename_i hc; rw [if_neg hc]; exact ih _ _ h
 have hsz : cells.size = n * ety.size := by rw [q3]; simp
 have hrun : (execOp a.eval o).run P w = .ok (.value (.slice (some ⟨w.heap.size, 0, none⟩) n n)) (w.alloc (.cells cells e)) := by
  have hfl := hfill _ _ _ q1
  have hmap : (parts.map fun (i, x) => (i, a.eval x)).toList = parts.toList.map fun p => (p.1, a.eval p.2) := by simp
  simp only [execOp, hop, Instr.buildSlice, Sem.run_bind, run_underlying ht.und, Result.andThen_ok, run_sizeOf' het.info, het.size, Sem.run_ite]
  rw [if_neg (by omega)]
  rw [het.size] at hrow
  by_cases hnz : n * ety.size = 0
  ·rw [if_pos hnz] at hrow ⊢
   subst hrow
   simp only [Sem.run_pure, Result.andThen_ok, hmap, hfl, newRow, Sem.run_bind, run_newObj]
   rfl
  ·rw [if_neg hnz] at hrow ⊢
   subst hrow
   simp only [zeroValue, Sem.run_bind, run_typeInfo' het.info, Result.andThen_ok, hzv, Sem.run_pure, hmap, hfl, newRow, run_newObj]
   rfl
 exact ⟨cells, hsz, q2, hrun⟩
theorem does_buildSlice {t e n : Nat} {parts : Array (Nat × Operand)} {ty ety : Ty} {ps : List (Nat × Nat × List D)} {l : List D} (hti : TiOK P ti) (hop : o.op = .buildSlice t n parts) (ht : ti t = some ty) (hk : ty.kd = .slice e) (he : ti e = some ety) (hp : partsD r parts.toList = some ps)
  (hz : ety.zero.length = ety.size) (h0 : 0 < ety.size) (hlim : n * ety.size ≤ 16777216) (hpl : ps.all (fun p => Nat.blt p.1 n) = true) (hf : fillD (fun i => bif Nat.blt i n then some (i * ety.size, ety.size) else none) (zeros n ety.zero) ps = some l)
  (hmem : ∀ n ob, look n mem = some ob → n < nx ∧ ob.lt nx = true) : Does P mem nx r o (.tg ety.size (chunk ety.size n l)) := by
 refine ⟨rfl, fun κ g a w hi ho next Q hn => ?_⟩
 obtain ⟨cells, hsz, q2, hrun⟩ := run_buildSlice hti hop ht hk he hp hz h0 hlim hpl hf hi ho
 obtain ⟨g', he', hi', hF⟩ := hi.newFrozen (w' := w.alloc (.cells cells e)) hmem rfl rfl rfl rfl (n * ety.size) (by omega)
 refine wp_value hrun (hn g' _ _ he' hi' (.tg _ _ _ _ (chunk_length _ _ _) ?_))
 exact DR.chunks (arr := cells) ⟨q2.1, fun j hj => (q2.2 j hj).mono he'.F⟩ (by rw [q2.1]; exact hsz) hF n (Nat.le_refl _)
theorem run_call_builtin {b : Builtin} {args : Array Operand} {ats : Array TypeId} (hop : o.op = .call ⟨.builtin b, args, ats⟩) (a : Act) : execOp a.eval o = builtin b ats o.type (args.map fun | .const _ => true | _ => false) (args.map a.eval) := by
 simp only [execOp, hop, resolve, pure_bind, invoke]
 rfl
theorem does_len_str {x : Operand} {ats : Array TypeId} {ty : Ty} {l : List UInt8} (hti : TiOK P ti) (hop : o.op = .call ⟨.builtin .len, #[x], ats⟩) {t : Nat} (ht : ti t = some ty) (hk : ty.kd = .string) (h0 : ats[0]? = some t) (hx : r x = some (.d (.st l))) : Does P mem nx r o (.d (.it .i64 l.length)) := by
 obtain ⟨u, i, ht⟩ := tyOf_ok (hti _ _ ht)
 obtain rfl := string_of ht hk
 refine .of_run rfl fun κ g a w hi ho => ⟨_, ?_, .d _ _ (.it _ _)⟩
 have h1 := evalStr (ho x (by simp [hop, Op.operands, Call.operands]) _ hx)
 rw [run_call_builtin hop]
 have hsz : (⟨l.toArray⟩ : ByteArray).size = l.length := by simp [ByteArray.size]
 simp [builtin, Builtin.len_, h1, h0, run_underlying ht.und, goInt, hsz]
theorem does_len_slice {x : Operand} {ats : Array TypeId} {ty : Ty} {v : AV} {e sz : Nat} {es : List (List D)} (hti : TiOK P ti) (hop : o.op = .call ⟨.builtin .len, #[x], ats⟩) {t : Nat} (ht : ti t = some ty) (hk : ty.kd = .slice e) (h0 : ats[0]? = some t) (hx : r x = some v) (hv : sliceOf v = some (sz, es)) : Does P mem nx r o (.d (.it .i64 es.length)) := by
 obtain ⟨u, i, ht⟩ := tyOf_ok (hti _ _ ht)
 obtain rfl := slice_of ht hk
 refine .of_run rfl fun κ g a w hi ho => ⟨.int .i64 es.length, ?_, .d _ _ (.it _ _)⟩
 have h1 := sliceOf_ok hv (ho x (by simp [hop, Op.operands, Call.operands]) _ hx)
 have h2 : ∃ ad cap, a.eval x = .slice ad es.length cap := by
  generalize a.eval x = q at h1
  cases h1 with
  | fs0 => exact ⟨_, _, rfl⟩
  | fs _ _ b off len cap vs hl => subst hl; exact ⟨_, _, rfl⟩
 obtain ⟨ad, cap, h2⟩ := h2
 rw [run_call_builtin hop]
 simp [builtin, Builtin.len_, h2, h0, run_underlying ht.und, goInt]
theorem does_len_arr {x : Operand} {ats : Array TypeId} {ty : Ty} {n e : Nat} (hti : TiOK P ti) (hop : o.op = .call ⟨.builtin .len, #[x], ats⟩) {t : Nat} (ht : ti t = some ty) (hk : ty.kd = .arr n e) (h0 : ats[0]? = some t) : Does P mem nx r o (.d (.it .i64 n)) := by
 obtain ⟨u, i, ht⟩ := tyOf_ok (hti _ _ ht)
 obtain rfl := arr_of ht hk
 refine .of_run rfl fun κ g a w hi ho => ⟨.int .i64 n, ?_, .d _ _ (.it _ _)⟩
 rw [run_call_builtin hop]
 simp [builtin, Builtin.len_, h0, run_underlying ht.und, goInt]
theorem does_min {x y : Operand} {ats : Array TypeId} {k l : IntKind} {a b : Int} (hop : o.op = .call ⟨.builtin .min, #[x, y], ats⟩) (hx : r x = some (.d (.it k a))) (hy : r y = some (.d (.it l b))) : Does P mem nx r o (.d (.it k (if b < a then b else a))) := by
 refine .of_run rfl fun κ g A w hi ho => ⟨_, ?_, .d _ _ (.it _ _)⟩
 have h1 := evalInt (ho x (by simp [hop, Op.operands, Call.operands]) _ hx)
 have h2 := evalInt (ho y (by simp [hop, Op.operands, Call.operands]) _ hy)
 rw [run_call_builtin hop]
 simp [builtin, Builtin.min_, h1, h2, Builtin.min2]
theorem does_max {x y : Operand} {ats : Array TypeId} {k l : IntKind} {a b : Int} (hop : o.op = .call ⟨.builtin .max, #[x, y], ats⟩) (hx : r x = some (.d (.it k a))) (hy : r y = some (.d (.it l b))) : Does P mem nx r o (.d (.it k (if b > a then b else a))) := by
 refine .of_run rfl fun κ g A w hi ho => ⟨_, ?_, .d _ _ (.it _ _)⟩
 have h1 := evalInt (ho x (by simp [hop, Op.operands, Call.operands]) _ hx)
 have h2 := evalInt (ho y (by simp [hop, Op.operands, Call.operands]) _ hy)
 rw [run_call_builtin hop]
 simp [builtin, Builtin.max_, h1, h2, Builtin.max2]
theorem argsP_ok {g : Gh} {a : Act} : ∀ {l : List Operand} {args : List AV}, argsP r l = some args → (∀ x ∈ l, ∀ v, r x = some v → AVR g v (a.eval x)) → args.length = l.length ∧ ∀ j (h : j < args.length) (h' : j < l.length), AVR g args[j] (a.eval l[j])
 | [], args, h, _ => by obtain rfl := Option.some.inj h; exact ⟨rfl, fun j h => by cases h⟩
 | x :: t, args, h, ho => by
  simp only [argsP] at h
  split at h
  ·rename_i v l h1 h2
   obtain rfl := Option.some.inj h
   obtain ⟨i1, i2⟩ := argsP_ok (g := g) (a := a) h2 (fun x hx => ho x (List.mem_cons_of_mem _ hx))
   refine ⟨by simp [i1], fun j h h' => ?_⟩
   cases j with
   | zero =>
    cases hx : r x with
    | none => rw [hx] at h1; cases h1
    | some u => rw [hx] at h1; exact pure1_ok h1 (ho x List.mem_cons_self u hx)
   | succ j => exact i2 j (by simpa using h) (by simpa using h')
  ·cases h
theorem does_call {f : Nat} {args : Array Operand} {ats : Array TypeId} {l : List AV} {v : AV} (hop : o.op = .call ⟨.value (.func f), args, ats⟩) (ha : argsP r args.toList = some l) (hf : FnC P f l v) (hmem : ∀ n ob, look n mem = some ob → n < nx ∧ ob.lt nx = true) : Does P mem nx r o v := by
 refine ⟨isP_lt hf.isP nx, fun κ g a w hi ho next Q hn => ?_⟩
 obtain ⟨a1, a2⟩ := argsP_ok (g := g) (a := a) ha (fun x hx v hv => ho x (by simp only [hop, Op.operands, Call.operands]; simp [hx]) v hv)
 have hexec : (execOp a.eval o).run P w = (callFunc f (args.map a.eval)).run P w := by
  simp only [execOp, hop, resolve, Act.eval, Deferred.ofValue, pure_bind, invoke]
  simp
 have fin : ∀ e w', (∃ v' g1, e = Ending.returned v' ∧ AVR g1 v v' ∧ (∀ b o v, g.F b o = some v → g1.F b o = some v) ∧
   (∀ b o v, g1.F b o = some v → g.F b o = some v ∨ w.heap.size ≤ b) ∧ (∀ b o v, g1.F b o = some v → w'.cell? ⟨b, o, none⟩ = some v) ∧
   w.heap.size ≤ w'.heap.size ∧ (∀ b, b < w.heap.size → w'.heap[b]? = w.heap[b]?) ∧ w'.os = w.os ∧ w'.tape = w.tape ∧ w'.output = w.output) → ∃ v', e = .returned v' ∧ next (a.put o.dst v') w' := by
  rintro e w' ⟨v', g1, rfl, q1, q2, q3, q4, q5, q6, q7, q8, q9⟩
  refine ⟨v', rfl, hn { g with F := g1.F } v' w' ⟨q2, fun _ _ => rfl, fun _ _ => rfl, fun _ _ => rfl, fun _ _ => rfl⟩ ?_ ?_⟩
  ·exact hi.grow hmem ⟨q2, fun _ _ => rfl, fun _ _ => rfl, fun _ _ => rfl, fun _ _ => rfl⟩ q5 q6 q3 q4 q7 q8 q9
  ·exact isP_mono (g := g1) (g' := { g with F := g1.F }) (fun _ _ _ h => h) hf.isP q1
 rcases hf.run g w (args.map a.eval) hi.frz (κ.gl.mono hi.f0) (by simp [a1]) (fun j hj => by
  have h' : j < args.size := by simpa using (a1 ▸ hj : j < args.toList.length)
  have := a2 j hj (by simpa using h')
  simpa [Array.getD, h'] using this) with ⟨hrun, hc⟩ | ⟨v', w', hrun, hc⟩
 ·exact wp_enter (hexec.trans hrun) (hc.mono fun e w' he => fin e w' he)
 ·obtain ⟨v'', he, hn'⟩ := fin _ _ hc
  cases he
  exact wp_value (hexec.trans hrun) hn'
theorem optK_ok {v : Option AV} (h : optK v K) : ∃ u, v = some u ∧ K u := by
 cases v with
 | none => exact h.elim
 | some u => exact ⟨u, rfl, h⟩
theorem bif_ok {b : Bool} {p : Prop} (h : bif b then p else False) : b = true ∧ p := by
 cases b with
 | true => exact ⟨rfl, h⟩
 | false => exact h.elim
theorem evVal_sound (hti : TiOK P ti) (hlt : ∀ x v, r x = some v → v.lt nx = true) (hmem : ∀ n ob, look n mem = some ob → n < nx ∧ ob.lt nx = true) (h : evVal P ti mem r o K) : ∃ v, K v ∧ Does P mem nx r o v := by
 unfold evVal at h
 split at h
 ·rename_i x hop
  obtain ⟨v, hv, hK⟩ := optK_ok h
  exact ⟨v, hK, does_move (.inl hop) hv (hlt _ _ hv)⟩
 ·rename_i x hop
  obtain ⟨v, hv, hK⟩ := optK_ok h
  exact ⟨v, hK, does_move (.inr hop) hv (hlt _ _ hv)⟩
 ·rename_i c x y hop
  split at h
  ·rename_i t hc
   cases t with
   | true =>
    obtain ⟨v, hv, hK⟩ := optK_ok (h.t rfl)
    exact ⟨v, hK, does_pick hop hc (by simpa using hv) (hlt _ _ hv)⟩
   | false =>
    obtain ⟨v, hv, hK⟩ := optK_ok (h.f rfl)
    exact ⟨v, hK, does_pick hop hc (by simpa using hv) (hlt _ _ hv)⟩
  ·exact h.elim
 ·rename_i x hop
  split at h
  ·rename_i n off hx; exact ⟨_, h, does_nilCheck hop hx (hlt _ _ hx) (.inl ⟨_, _, rfl⟩)⟩
  ·rename_i k cs hx; exact ⟨_, h, does_nilCheck hop hx (hlt _ _ hx) (.inr ⟨_, _, rfl⟩)⟩
  ·exact h.elim
 ·rename_i t x hop
  split at h
  ·rename_i ty k cs ht hx
   obtain ⟨hb, hK⟩ := bif_ok h
   replace hK := AtA.bif hK
   simp only [Bool.and_eq_true, Nat.blt_eq] at hb
   exact ⟨_, hK, does_load_fp hop (hti _ _ ht) hx (Nat.le_of_ble_eq_true hb.1) hb.2⟩
  ·rename_i ty n off ht hx
   split at h
   ·rename_i size c hm
    obtain ⟨hb, hK⟩ := bif_ok h
    simp only [Bool.and_eq_true, Nat.blt_eq] at hb
    replace hK : K (ldA ty off c) := by
     cases hq : Nat.ble 16 size with
     | true => rw [hq] at hK; exact hK.run
     | false => rw [hq] at hK; exact hK
    refine ⟨_, hK, does_load_ptr hop (hti _ _ ht) hx hm (Nat.le_of_ble_eq_true hb.1) hb.2 ?_⟩
    have := (hmem _ _ hm).2
    simp only [Ob.lt, List.all_eq_true] at this
    exact this
   ·exact h.elim
  ·exact h.elim
 ·rename_i t x f hop
  split at h
  ·rename_i fs sz by' z cmp pl p ht hx
   split at h
   ·rename_i fo fsz hf
    obtain ⟨hb, h⟩ := bif_ok h
    simp only [Nat.blt_eq] at hb
    split at h
    ·rename_i n off
     exact ⟨_, h, does_fieldAddr hti hop (hti _ _ ht) rfl hf hb hx (.inl ⟨_, _, rfl, rfl, by have := hlt _ _ hx; simpa [AV.lt, AV.lt2, AV.lt1, AV.lt0] using this⟩)⟩
    ·rename_i k cs
     obtain ⟨hb', hK⟩ := bif_ok h
     replace hK := AtD.bif (K := fun l => K (.d (.fp _ l))) hK
     exact ⟨_, hK, does_fieldAddr hti hop (hti _ _ ht) rfl hf hb hx (.inr (.inl ⟨_, _, rfl, rfl, Nat.le_of_ble_eq_true hb'⟩))⟩
    ·exact h.elim
   ·exact h.elim
  ·exact h.elim
 ·rename_i t x f hop
  split at h
  ·rename_i fs sz by' z cmp pl p ht hx
   split at h
   ·rename_i fo ft hf
    split at h
    ·rename_i fty hft
     split at h
     ·rename_i k cs
      obtain ⟨hb, hK⟩ := bif_ok h
      replace hK := AtA.bif hK
      simp only [Bool.and_eq_true, Nat.blt_eq] at hb
      exact ⟨_, hK, does_field_d hti hop (hti _ _ ht) rfl hf hft hx (Nat.le_of_ble_eq_true hb.1) hb.2⟩
     ·rename_i k cs
      obtain ⟨hb, hK⟩ := bif_ok h
      replace hK := AtA.bif hK
      simp only [Bool.and_eq_true, Nat.blt_eq] at hb
      exact ⟨_, hK, does_field_a hti hop (hti _ _ ht) rfl hf hft hx (hlt _ _ hx) (Nat.le_of_ble_eq_true hb.1) hb.2⟩
     ·exact h.elim
    ·exact h.elim
   ·exact h.elim
  ·exact h.elim
 ·rename_i t x i hop
  split at h
  ·rename_i e sz0 by' z cmp pl v k n ht hx hi
   split at h
   ·rename_i sz es ety hv he
    obtain ⟨hb, hn, h⟩ := bif_ok h
    have hl : n.toNat < es.length := by omega
    exact ⟨_, h _ (List.getElem?_eq_getElem hl), does_indexAddr_slice hti hop (hti _ _ ht) rfl he hx hv hi (Nat.eq_of_beq_eq_true hb) hn (List.getElem?_eq_getElem hl)⟩
   ·exact h.elim
  ·rename_i len e sz0 by' z cmp pl k cs kk n ht hx hi
   split at h
   ·rename_i ety he
    obtain ⟨hb, hn, hK⟩ := bif_ok h
    replace hK := AtD.bif (K := fun l => K (.d (.fp _ l))) hK
    simp only [Bool.and_eq_true, Nat.blt_eq] at hb
    exact ⟨_, hK, does_indexAddr_arr hti hop (hti _ _ ht) rfl he hx hi (Nat.le_of_ble_eq_true hb.1) hn⟩
   ·exact h.elim
  ·exact h.elim
 ·rename_i t x i hop
  split at h
  ·rename_i sz0 by' z cmp pl l k n ht hx hi
   obtain ⟨hn, h⟩ := h
   have hl : n.toNat < l.length := by omega
   exact ⟨_, h _ (List.getElem?_eq_getElem hl), does_index_str hop (hti _ _ ht) rfl hx hi hn (List.getElem?_eq_getElem hl)⟩
  ·rename_i len e sz0 by' z cmp pl k cs kk n ht hx hi
   split at h
   ·rename_i ety he
    obtain ⟨hb, hn, hK⟩ := bif_ok h
    replace hK := AtA.bif hK
    simp only [Bool.and_eq_true, Nat.blt_eq] at hb
    exact ⟨_, hK, does_index_arr hti hop (hti _ _ ht) rfl he hx hi (Nat.le_of_ble_eq_true hb.1) hb.2 hn⟩
   ·exact h.elim
  ·exact h.elim
 ·rename_i t x lo hi mx hop
  split at h
  ·rename_i sz0 by' z cmp pl l ht hx
   split at h
   ·rename_i lo hi
    split at h
    ·rename_i i j hlo hhi
     obtain ⟨⟨c1, c2, c3⟩, hK⟩ := h
     exact ⟨_, hK, does_slice_str (i := some i) (j := some j) hop (hti _ _ ht) rfl hx hlo hhi (fun x hx => by cases hx; exact c1) (fun x hx => by cases hx; omega) (by simp; omega) (by simp; omega)⟩
    ·exact h.elim
   ·rename_i lo
    split at h
    ·rename_i i hlo
     obtain ⟨⟨c1, c2⟩, hK⟩ := h
     have := does_slice_str (P := P) (mem := mem) (nx := nx) (i := some i) (j := none) hop (hti _ _ ht) rfl hx hlo trivial (fun x hx => by cases hx; exact c1) (fun x hx => by cases hx) (by simp; omega) (by simp)
     simp only [Option.map, Option.getD, List.take_length] at this
     exact ⟨_, hK, this⟩
    ·exact h.elim
   ·rename_i hi
    split at h
    ·rename_i j hhi
     obtain ⟨⟨c1, c2⟩, hK⟩ := h
     exact ⟨_, hK, does_slice_str (i := none) (j := some j) hop (hti _ _ ht) rfl hx trivial hhi (fun x hx => by cases hx) (fun x hx => by cases hx; exact c1) (by simp) (by simp; omega)⟩
    ·exact h.elim
   ·exact h.elim
  ·rename_i e sz0 by' z cmp pl v ht hx
   split at h
   ·rename_i sz es ety hv he
    obtain ⟨hb, h⟩ := bif_ok h
    have hsz := Nat.eq_of_beq_eq_true hb
    split at h
    ·rename_i lo hi
     split at h
     ·rename_i i j hlo hhi
      obtain ⟨⟨c1, c2, c3⟩, hK⟩ := h
      exact ⟨_, hK, does_slice_slice (i := some i) (j := some j) (m := none) hti hop (hti _ _ ht) rfl he hx hv hsz hlo hhi trivial (by simp) (fun x hx => by cases hx; exact c1) (fun x hx => by cases hx; omega) (fun x hx => by cases hx) (by simp; omega) (by simp; omega)⟩
     ·exact h.elim
    ·rename_i lo
     split at h
     ·rename_i i hlo
      obtain ⟨⟨c1, c2⟩, hK⟩ := h
      have := does_slice_slice (P := P) (mem := mem) (nx := nx) (i := some i) (j := none) (m := none) hti hop (hti _ _ ht) rfl he hx hv hsz hlo trivial trivial (by simp) (fun x hx => by cases hx; exact c1) (fun x hx => by cases hx) (fun x hx => by cases hx) (by simp; omega) (by simp)
      simp only [Option.map, Option.getD, List.take_length, Option.isSome, Bool.false_eq_true, if_false] at this
      exact ⟨_, hK, this⟩
     ·exact h.elim
    ·rename_i hi
     split at h
     ·rename_i j hhi
      obtain ⟨⟨c1, c2⟩, hK⟩ := h
      exact ⟨_, hK, does_slice_slice (i := none) (j := some j) (m := none) hti hop (hti _ _ ht) rfl he hx hv hsz trivial hhi trivial (by simp) (fun x hx => by cases hx) (fun x hx => by cases hx; exact c1) (fun x hx => by cases hx) (by simp) (by simp; omega)⟩
     ·exact h.elim
    ·rename_i hi mx
     split at h
     ·rename_i j m hhi hmx
      obtain ⟨⟨c1, c2, rfl⟩, hK⟩ := h
      exact ⟨_, hK, does_slice_slice (i := none) (j := some m) (m := some m) hti hop (hti _ _ ht) rfl he hx hv hsz trivial hhi hmx (by simp) (fun x hx => by cases hx) (fun x hx => by cases hx; exact c1) (fun x hx => by cases hx; exact ⟨c1, c2, rfl⟩) (by simp) (by simp; omega)⟩
     ·exact h.elim
    ·exact h.elim
   ·exact h.elim
  ·exact h.elim
 ·rename_i op t x y t' hop
  split at h
  ·rename_i u v hx hy
   obtain ⟨z, hK, hd⟩ := does_binOp hti hop hx hy h
   exact ⟨_, hK, hd⟩
  ·exact h.elim
 ·rename_i t x hop
  split at h
  ·rename_i b hx; exact ⟨_, h, does_not hop hx⟩
  ·exact h.elim
 ·rename_i t x hop
  split at h
  ·rename_i k n hx; exact ⟨_, h.run, does_neg hop hx⟩
  ·exact h.elim
 ·rename_i s t x hop
  split at h
  ·rename_i hs ht hx; exact ⟨_, h.run, does_conv_int hti hop hs rfl ht rfl hx⟩
  ·rename_i hs ht hx; exact ⟨_, h, does_conv_str hti hop hs rfl ht rfl hx⟩
  ·rename_i hs ht hx
   split at h
   ·rename_i sz es _ _ _ _ hv he
    obtain ⟨hb, l, hl, hK⟩ := bif_ok h
    obtain rfl := Nat.eq_of_beq_eq_true hb
    exact ⟨_, hK, does_conv_bytes hti hop hs rfl ht rfl he rfl hx hv hl⟩
   ·exact h.elim
  ·rename_i hs ht hx
   split at h
   ·rename_i he
    exact ⟨_, h, does_conv_to_bytes hti hop hs rfl ht rfl he rfl hx hmem⟩
   ·exact h.elim
  ·exact h.elim
 ·rename_i x i hop
  split at h
  ·rename_i vs hx
   obtain ⟨v, hv, hK⟩ := optK_ok h
   exact ⟨v, hK, does_extract hop hx (hlt _ _ hx) hv⟩
  ·exact h.elim
 ·rename_i t parts hop
  split at h
  ·rename_i ty ps pa ht hp hpa
   obtain ⟨hb, h⟩ := bif_ok h
   simp only [Bool.and_eq_true, Nat.blt_eq] at hb
   have hz := Nat.eq_of_beq_eq_true hb.1
   split at h
   ·rename_i fs hk
    obtain ⟨hpl, h⟩ := bif_ok h
    cases hany : ty.zero.any D.isFs with
    | true =>
     rw [hany] at h
     simp only [cond_true] at h
     split at h
     ·rename_i l hf
      exact ⟨_, h, does_build_structA hti hop ht hk hpa hlt hz hb.2 hpl hf⟩
     ·exact h.elim
    | false =>
     rw [hany] at h
     simp only [cond_false] at h
     split at h
     ·rename_i l hf
      exact ⟨_, h, does_build_struct hti hop ht hk hp hz hb.2 hpl hf⟩
     ·exact h.elim
   ·rename_i n e hk
    split at h
    ·rename_i ety he
     split at h
     ·rename_i l hf
      obtain ⟨hpl, hK⟩ := bif_ok h
      exact ⟨_, hK, does_build_arr hti hop ht hk he hp hz hb.2 hpl hf⟩
     ·exact h.elim
    ·exact h.elim
   ·exact h.elim
  ·rename_i ty pa ht hp hpa
   obtain ⟨hb, h⟩ := bif_ok h
   simp only [Bool.and_eq_true, Nat.blt_eq] at hb
   have hz := Nat.eq_of_beq_eq_true hb.1
   split at h
   ·rename_i fs hk
    obtain ⟨hpl, h⟩ := bif_ok h
    split at h
    ·rename_i l hf
     exact ⟨_, h, does_build_structA hti hop ht hk hpa hlt hz hb.2 hpl hf⟩
    ·exact h.elim
   ·exact h.elim
  ·exact h.elim
 ·rename_i t n parts hop
  split at h
  ·rename_i e _ _ _ _ _ ps ht hp
   split at h
   ·rename_i ety he
    obtain ⟨hb, h⟩ := bif_ok h
    simp only [Bool.and_eq_true, Nat.blt_eq] at hb
    split at h
    ·rename_i l hf
     exact ⟨_, h, does_buildSlice hti hop ht rfl he hp (Nat.eq_of_beq_eq_true hb.1.1) hb.1.2 (Nat.le_of_ble_eq_true hb.2.1) hb.2.2 hf hmem⟩
    ·exact h.elim
   ·exact h.elim
  ·exact h.elim
 ·rename_i c hop
  obtain ⟨callee, args, ats⟩ := c
  have hargs : ∀ l, args.toList = l → args = l.toArray := fun l hl => by rw [← hl]
  split at h
  ·rename_i x hc hl
   simp only at hc hl
   subst hc
   obtain rfl := hargs _ hl
   have get : ∀ {ty : Ty}, (ats[0]?.bind ti) = some ty → ∃ t, ats[0]? = some t ∧ ti t = some ty := fun {ty} hb => by
    cases hq : ats[0]? with
    | none => rw [hq] at hb; cases hb
    | some t => rw [hq] at hb; exact ⟨t, rfl, hb⟩
   split at h
   ·rename_i l _ _ _ _ _ hx ht
    obtain ⟨t, h0, ht⟩ := get ht
    exact ⟨_, h, does_len_str hti hop ht rfl h0 hx⟩
   ·rename_i v e _ _ _ _ _ hx ht
    obtain ⟨t, h0, ht⟩ := get ht
    split at h
    ·rename_i sz es hv
     exact ⟨_, h, does_len_slice hti hop ht rfl h0 hx hv⟩
    ·exact h.elim
   ·rename_i n e _ _ _ _ _ ht
    obtain ⟨t, h0, ht⟩ := get ht
    exact ⟨_, h, does_len_arr hti hop ht rfl h0⟩
   ·exact h.elim
  ·rename_i x y hc hl
   simp only at hc hl
   subst hc
   obtain rfl := hargs _ hl
   split at h
   ·rename_i hx hy; exact ⟨_, h.run, does_min hop hx hy⟩
   ·exact h.elim
  ·rename_i x y hc hl
   simp only at hc hl
   subst hc
   obtain rfl := hargs _ hl
   split at h
   ·rename_i hx hy; exact ⟨_, h.run, does_max hop hx hy⟩
   ·exact h.elim
  ·rename_i cc ll f hc
   simp only at hc
   subst hc
   split at h
   ·rename_i args' ha
    obtain ⟨v, hf, hK⟩ := h.run
    exact ⟨v, hK, does_call hop ha hf hmem⟩
   ·exact h.elim
  ·exact h.elim
 ·exact h.elim
end
end Go.Sy
namespace Go.Sy
def u8A (b : UInt8) : AV := .d (.it .u8 b.toNat)
def oInt (r : Operand → Option AV) : Option Operand → Option (Option Int)
 | none => some none
 | some x => match r x with
  | some (.d (.it .i64 n)) => some (some n)
  | _ => none
def sliM (sz n off len cap : Nat) (lo hi : Option Int) (K : AV → Prop) : Prop :=
 match lo, hi with
 | none, none => K (.ms sz n off len cap)
 | none, some h => (0 ≤ h ∧ h ≤ cap) ∧ LetN h.toNat fun a => K (.ms sz n off a cap)
 | some l, none => (0 ≤ l ∧ l ≤ len) ∧ LetN (off + l.toNat * sz) fun z => LetN (len - l.toNat) fun a => LetN (cap - l.toNat) fun b => K (.ms sz n z a b)
 | some l, some h => (0 ≤ l ∧ l ≤ h ∧ h ≤ cap) ∧ LetN (off + l.toNat * sz) fun z => LetN (h.toNat - l.toNat) fun a => LetN (cap - l.toNat) fun b => K (.ms sz n z a b)
def sliV (sz n i len lim : Nat) (lo hi : Option Int) (K : AV → Prop) : Prop :=
 match lo, hi with
 | none, none => K (.vx sz n i len)
 | none, some h => (0 ≤ h ∧ h ≤ lim) ∧ LetN h.toNat fun a => K (.vx sz n i a)
 | some l, none => (0 ≤ l ∧ l ≤ len) ∧ LetN (i + l.toNat) fun z => LetN (len - l.toNat) fun a => K (.vx sz n z a)
 | some l, some h => (0 ≤ l ∧ l ≤ h ∧ h ≤ lim) ∧ LetN (i + l.toNat) fun z => LetN (h.toNat - l.toNat) fun a => K (.vx sz n z a)
def evValM (ti : Nat → Option Ty) (mem : List (Nat × Ob)) (r : Operand → Option AV) (o : Oper) (K : AV → Prop) : Option Prop :=
 match o.op with
 | .indexAddr t x i => match r x with
  | some (.ms _ n off len cap) => some (match ti t, r i with
   | some ⟨.slice e, _, _, _, _, _⟩, some (.d (.it _ j)) => match ti e with
    | some ety => (0 ≤ j ∧ j < len) ∧ LetN (off + j.toNat * ety.size) fun z => K (.ptr n z)
    | none => False
   | _, _ => False)
  | some (.ptr n off) => some (match ti t, r i with
   | some ⟨.arr len e, _, _, _, _, _⟩, some (.d (.it _ j)) => match ti e with
    | some ety => (0 ≤ j ∧ j < len) ∧ LetN (off + j.toNat * ety.size) fun z => K (.ptr n z)
    | none => False
   | _, _ => False)
  | some (.vx sz n i0 len) => some (match ti t, r i, look n mem with
   | some ⟨.slice e, _, _, _, _, _⟩, some (.d (.it _ j)), some (.vec _ sz' es _) => match ti e with
    | some ety => bif Nat.beq sz ety.size && Nat.beq sz' sz then (0 ≤ j ∧ j < len ∧ i0 + len ≤ es.length) ∧ LetN (i0 + j.toNat) fun z => K (.vq sz n z 0) else False
    | none => False
   | _, _, _ => False)
  | _ => none
 | .fieldAddr t x f => match r x with
  | some (.vq sz n k off) => some (match ti t with
   | some ⟨.struct fs, _, _, _, _, _⟩ => match placeOf ti fs f with
    | some (fo, fsz) => bif Nat.blt 0 fsz then K (.vq sz n k (off + fo)) else False
    | none => False
   | _ => False)
  | _ => none
 | .load t x => match r x with
  | some (.vq sz n k off) => some (match ti t, look n mem with
   | some ty, some (.vec _ sz' es _) => bif Nat.beq sz' sz && Nat.ble (off + ty.size) sz && Nat.blt off sz then k < es.length ∧ ∀ c, es[k]? = some c → (bif Nat.ble 17 sz then AtA (ldD ty (c.drop off)) K else K (ldD ty (c.drop off))) else False
   | _, _ => False)
  | _ => none
 | .slice t x lo hi none => match r x with
  | some (.ms _ n off len cap) => some (match ti t, oInt r lo, oInt r hi with
   | some ⟨.slice e, _, _, _, _, _⟩, some lo, some hi => match ti e with
    | some ety => len ≤ cap ∧ sliM ety.size n off len cap lo hi K
    | none => False
   | _, _, _ => False)
  | some (.ptr n off) => some (match ti t, oInt r lo, oInt r hi with
   | some ⟨.arr len e, _, _, _, _, _⟩, some lo, some hi => match ti e with
    | some ety => sliM ety.size n off len len lo hi K
    | none => False
   | _, _, _ => False)
  | some (.vx sz n i len) => some (match ti t, oInt r lo, oInt r hi, look n mem with
   | some ⟨.slice e, _, _, _, _, _⟩, some lo, some hi, some (.vec _ sz' es _) => match ti e with
    | some ety => bif Nat.beq sz ety.size && Nat.beq sz' sz && Nat.blt 0 sz then sliV sz n i len (es.length - i) lo hi K else False
    | none => False
   | _, _, _, _ => False)
  | _ => none
 | .convert s t x => match r x with
  | some (.ms _ n off len cap) => some (match ti s, ti t, look n mem with
   | some ⟨.slice e, _, _, _, _, _⟩, some ⟨.string, _, _, _, _, _⟩, some (.cells size c) => match ti e with
    | some ⟨.int .u8, 1, _, _, _, _⟩ => ∃ l, (off + len ≤ size ∧ (c.drop off).take len = l.map u8A) ∧ K (.d (.st l))
    | _ => False
   | _, _, _ => False)
  | some (.ptr n off) => some (match ti s, ti t, look n mem with
   | some ⟨.ptr e, _, _, _, _, _⟩, some ⟨.usafe, _, _, _, _, _⟩, some (.cells size _) => match ti e with
    | some ety => bif Nat.blt 0 ety.size && Nat.blt off size then K (.ptr n off) else False
    | none => False
   | some ⟨.usafe, _, _, _, _, _⟩, some ⟨.ptr e, _, _, _, _, _⟩, some (.cells size _) => match look (n + 1) mem, ti e with
    | some (.tag m t'), some ety => bif Nat.beq m n && Nat.beq t' e && (Nat.beq off 0 && Nat.ble ety.size size && Nat.blt 0 ety.size) then K (.ptr n off) else False
    | _, _ => False
   | _, _, _ => False)
  | _ => none
 | .binOp op t x y _ => match op, r x, r y, ti t with
  | .eql, some (.ptr n a), some (.ptr m b), some ⟨.ptr e, _, _, _, _, _⟩ => some (bif Nat.beq n m && Nat.beq a b && (ti e).isSome then K (.d (.bl true)) else False)
  | .neq, some (.ptr n a), some (.ptr m b), some ⟨.ptr e, _, _, _, _, _⟩ => some (bif Nat.beq n m && Nat.beq a b && (ti e).isSome then K (.d (.bl false)) else False)
  | .eql, some (.ptr _ _), some (.d (.ot (.pointer none))), some ⟨.ptr _, _, _, _, _, _⟩ => some (K (.d (.bl false)))
  | .neq, some (.ptr _ _), some (.d (.ot (.pointer none))), some ⟨.ptr _, _, _, _, _, _⟩ => some (K (.d (.bl true)))
  | .eql, some (.d (.fp _ _)), some (.d (.ot (.pointer none))), some ⟨.ptr _, _, _, _, _, _⟩ => some (K (.d (.bl false)))
  | .neq, some (.d (.fp _ _)), some (.d (.ot (.pointer none))), some ⟨.ptr _, _, _, _, _, _⟩ => some (K (.d (.bl true)))
  | .eql, some (.d (.ot (.pointer none))), some (.d (.ot (.pointer none))), some ⟨.ptr _, _, _, _, _, _⟩ => some (K (.d (.bl true)))
  | .neq, some (.d (.ot (.pointer none))), some (.d (.ot (.pointer none))), some ⟨.ptr _, _, _, _, _, _⟩ => some (K (.d (.bl false)))
  | _, _, _, _ => none
 | .call ⟨.builtin .unsafeSliceData, args, _⟩ => match args.toList with
  | [x] => match r x with
   | some (.ts sz es n) => some (match look n mem with
    | some (.tail _ b) => bif b && Nat.beq sz 1 then K (.sd es n) else False
    | _ => False)
   | some (.nl _) => some (K (.d (.ot (.pointer none))))
   | _ => none
  | _ => none
 | .makeFunc fn first caps => match argsA r first.toList, argsA r caps.toList with
  | some f, some c => bif f.all AV.flat && c.all AV.flat then some (K (.fn fn f c)) else none
  | _, _ => none
 | .call ⟨.builtin .len, args, ats⟩ => match args.toList with
  | [x] => match r x, ats[0]?.bind ti with
   | some (.ms _ _ _ len _), some ⟨.slice _, _, _, _, _, _⟩ => some (K (.d (.it .i64 len)))
   | some (.vx _ _ _ len), some ⟨.slice _, _, _, _, _, _⟩ => some (K (.d (.it .i64 len)))
   | _, _ => none
  | _ => none
 | _ => none
structure LookN (P : Program) (k e : Nat) (K : AV → Prop) : Prop where
 run : ∃ kk z, (∃ kt, P.underlying k = some (.int kt)) ∧ (∀ w, (zeroValue e).run P w = .ok (.int kk z) w) ∧ K (.d (.it kk z))
def evMap (P : Program) (ti : Nat → Option Ty) (r : Operand → Option AV) (o : Oper) (K : AV → Prop) : Option Prop :=
 match o.op with
 | .lookup t x i false => match r x, r i, ti t with
  | some (.d (.ot (.map none))), some (.d (.it _ _)), some ⟨.map k e, _, _, _, _, _⟩ => some (LookN P k e K)
  | _, _, _ => none
 | _ => none
def D.flat : D → Bool
 | .fs .. | .fp .. => false
 | _ => true
def AV.flatP : AV → Bool
 | .d x => x.flat
 | .dg _ cs => cs.all D.flat
 | .tup vs => vs.all fun | .d x => x.flat | .dg _ cs => cs.all D.flat | _ => false
 | _ => false
def argR (mem : List (Nat × Ob)) : AV → AV → Prop
 | .ptr n off, .d (.fp k ds) => ∃ size c, look n mem = some (.cells size c) ∧ off + k ≤ size ∧ ds.length = k ∧ frzL ((c.drop off).take k) = some ds
 | u, v => u.pure1 = some v
def argsR (mem : List (Nat × Ob)) : List AV → List AV → Prop
 | [], [] => True
 | u :: l, v :: l' => argR mem u v ∧ argsR mem l l'
 | _, _ => False
structure CallR (P : Program) (mem : List (Nat × Ob)) (f : Nat) (l : List AV) (K : AV → Prop) : Prop where
 run : ∃ l' r, argsR mem l l' ∧ FnC P f l' r ∧ r.flatP = true ∧ K r
def evR (P : Program) (mem : List (Nat × Ob)) (r : Operand → Option AV) (o : Oper) (K : AV → Prop) : Option Prop :=
 match o.op with
 | .call ⟨.value (.func f), args, _⟩ => match argsP r args.toList with
  | some _ => none
  | none => match argsA r args.toList with
   | some l => some (CallR P mem f l K)
   | none => none
 | _ => none
inductive LetE (e : List (List D)) (K : List (List D) → Prop) : Prop
 | mk (l : List (List D)) (h : l = e) (k : K l)
theorem LetE.now {e : List (List D)} {K : List (List D) → Prop} (h : K e) : LetE e K := ⟨e, rfl, h⟩
theorem LetE.out {e : List (List D)} {K : List (List D) → Prop} (h : LetE e K) : K e := by obtain ⟨l, rfl, k⟩ := h; exact k
def sliF (sz : Nat) (es : List (List D)) (lo hi : Option Int) (K : AV → Prop) : Prop :=
 match lo, hi with
 | none, none => K (.d (.fs sz es))
 | none, some h => (0 ≤ h ∧ h ≤ es.length) ∧ LetE (es.take h.toNat) fun l => K (.d (.fs sz l))
 | some l, none => (0 ≤ l ∧ l ≤ es.length) ∧ LetE (es.drop l.toNat) fun l => K (.d (.fs sz l))
 | some l, some h => (0 ≤ l ∧ l ≤ h ∧ h ≤ es.length) ∧ LetE ((es.take h.toNat).drop l.toNat) fun l => K (.d (.fs sz l))
structure SlF (sz len : Nat) (cs : List D) (lo hi : Option Int) (K : AV → Prop) : Prop where
 run : ∃ es : List (List D), (es.length = len ∧ (∀ x ∈ es, x.length = sz) ∧ es.flatten = cs.take (len * sz)) ∧ sliF sz es lo hi K
def evSl (ti : Nat → Option Ty) (r : Operand → Option AV) (o : Oper) (K : AV → Prop) : Option Prop :=
 match o.op with
 | .slice t x lo hi none => match r x, ti t, oInt r lo, oInt r hi with
  | some (.d (.fp k cs)), some ⟨.arr len e, _, _, _, _, _⟩, some lo, some hi => some (match ti e with
   | some ety => bif Nat.ble (len * ety.size) k then SlF ety.size len cs lo hi K else False
   | none => False)
  | _, _, _, _ => none
 | _ => none
def evV (P : Program) (ti : Nat → Option Ty) (mem : List (Nat × Ob)) (r : Operand → Option AV) (o : Oper) (K : AV → Prop) : Prop :=
 match evValM ti mem r o K with
 | some p => p
 | none => match evMap P ti r o K with
  | some p => p
  | none => match evR P mem r o K with
   | some p => p
   | none => match evSl ti r o K with
    | some p => p
    | none => evVal P ti mem r o K
section
variable {P : Program} {ti : Nat → Option Ty} {mem : List (Nat × Ob)} {nx : Nat} {r : Operand → Option AV} {o : Oper} {K : AV → Prop}
theorem lt_ms {m sz n off len cap : Nat} (h : n < m) : (AV.ms sz n off len cap).lt m = true := by simp [AV.lt, AV.lt2, AV.lt1, AV.lt0, h]
theorem lt_ptr {m n off : Nat} (h : n < m) : (AV.ptr n off).lt m = true := by simp [AV.lt, AV.lt2, AV.lt1, AV.lt0, h]
theorem of_lt_ms {m sz n off len cap : Nat} (h : (AV.ms sz n off len cap).lt m = true) : n < m := by simpa [AV.lt, AV.lt2, AV.lt1, AV.lt0] using h
theorem of_lt_ptr {m n off : Nat} (h : (AV.ptr n off).lt m = true) : n < m := by simpa [AV.lt, AV.lt2, AV.lt1, AV.lt0] using h
theorem does_indexAddr_ms {t e : Nat} {x y : Operand} {ty ety : Ty} {zz n off len cap : Nat} {k : IntKind} {j : Int} (hti : TiOK P ti) (hop : o.op = .indexAddr t x y) (ht : tyOf P t = some ty) (hk : ty.kd = .slice e) (he : ti e = some ety)
  (hx : r x = some (.ms zz n off len cap)) (hy : r y = some (.d (.it k j))) (hn : 0 ≤ j ∧ j < len) (hl : n < nx) : Does P mem nx r o (.ptr n (off + j.toNat * ety.size)) := by
 obtain ⟨u, i, ht⟩ := tyOf_ok ht
 obtain ⟨ue, ie, het⟩ := tyOf_ok (hti _ _ he)
 obtain rfl := slice_of ht hk
 refine .of_run (lt_ptr hl) fun κ g a w hi ho => ?_
 have h1 := ho x (by simp [hop, Op.operands]) _ hx
 have h2 := evalInt (ho y (by simp [hop, Op.operands]) _ hy)
 generalize ha : a.eval x = q at h1
 cases h1 with | ms _ _ _ _ _ ad had hc => ?_
 have hcap : 0 < cap := by omega
 obtain rfl := had hcap
 refine ⟨_, ?_, .ptr _ _⟩
 have hcond : (0 : Int) ≤ j ∧ j < (len : Int) := hn
 simp only [execOp, hop, ha, h2, Instr.indexAt, asIntOf, Sem.run_bind, Sem.run_pure, Result.andThen_ok, run_underlying ht.und, Sem.run_ite]
 rw [if_pos hcond]
 simp only [Sem.run_bind, run_sizeOf' het.info, Result.andThen_ok, Sem.run_pure, addr_add, het.size]
theorem does_indexAddr_arrM {t e len : Nat} {x y : Operand} {ty ety : Ty} {n off : Nat} {k : IntKind} {j : Int} (hti : TiOK P ti) (hop : o.op = .indexAddr t x y) (ht : tyOf P t = some ty) (hk : ty.kd = .arr len e) (he : ti e = some ety)
  (hx : r x = some (.ptr n off)) (hy : r y = some (.d (.it k j))) (hn : 0 ≤ j ∧ j < len) (hl : n < nx) : Does P mem nx r o (.ptr n (off + j.toNat * ety.size)) := by
 obtain ⟨u, i, ht⟩ := tyOf_ok ht
 obtain ⟨ue, ie, het⟩ := tyOf_ok (hti _ _ he)
 obtain rfl := arr_of ht hk
 refine .of_run (lt_ptr hl) fun κ g a w hi ho => ?_
 have h1 := ho x (by simp [hop, Op.operands]) _ hx
 have h2 := evalInt (ho y (by simp [hop, Op.operands]) _ hy)
 generalize ha : a.eval x = q at h1
 cases h1 with | ptr => ?_
 refine ⟨_, ?_, .ptr _ _⟩
 have hcond : (0 : Int) ≤ j ∧ j < (len : Int) := hn
 simp only [execOp, hop, ha, h2, Instr.indexAt, asIntOf, Instr.sureAddr, Sem.run_bind, Sem.run_pure, Result.andThen_ok, run_underlying ht.und, Sem.run_ite]
 rw [if_pos hcond]
 simp only [Sem.run_bind, run_sizeOf' het.info, Result.andThen_ok, Sem.run_pure, addr_add, het.size]
theorem oInt_ok {g : Gh} {a : Act} {x : Option Operand} {i : Option Int} (h : oInt r x = some i) (hm : ∀ y, x = some y → y ∈ o.op.operands.toList) (ho : ∀ x ∈ o.op.operands.toList, ∀ v, r x = some v → AVR g v (a.eval x)) : x.map a.eval = i.map (.int .i64) := by
 cases x with
 | none => obtain rfl := Option.some.inj h; rfl
 | some x =>
  simp only [oInt] at h
  split at h
  ·rename_i n hn
   obtain rfl := Option.some.inj h
   simp only [Option.map, Option.some.injEq]
   exact evalInt (ho _ (hm _ rfl) _ hn)
  ·cases h
theorem sliM_ok {sz n off len cap : Nat} {lo hi : Option Int} (hc : len ≤ cap) (h : sliM sz n off len cap lo hi K) : (∀ x, lo = some x → 0 ≤ x) ∧ (∀ x, hi = some x → 0 ≤ x) ∧ (bds len cap lo hi none).1 ≤ (bds len cap lo hi none).2.1 ∧ (bds len cap lo hi none).2.1 ≤ cap ∧
  ∃ v, K v ∧ v = .ms sz n (off + (bds len cap lo hi none).1 * sz) ((bds len cap lo hi none).2.1 - (bds len cap lo hi none).1) (cap - (bds len cap lo hi none).1) := by
 cases lo with
 | none =>
  cases hi with
  | none => exact ⟨(fun _ h => by cases h), (fun _ h => by cases h), Nat.zero_le _, hc, _, h, by simp [bds]⟩
  | some j =>
   obtain ⟨h1, h⟩ := h
   exact ⟨(fun _ h => by cases h), (fun x h => by cases h; exact h1.1), Nat.zero_le _, (by simp [bds]; omega), _, h.run, by simp [bds]⟩
 | some i =>
  cases hi with
  | none =>
   obtain ⟨h1, h⟩ := h
   exact ⟨(fun x h => by cases h; exact h1.1), (fun _ h => by cases h), (by simp [bds]; omega), (by simp [bds]; omega), _, h.run.run.run, by simp [bds]⟩
  | some j =>
   obtain ⟨h1, h⟩ := h
   exact ⟨(fun x h => by cases h; exact h1.1), (fun x h => by cases h; omega), (by simp [bds]; omega), (by simp [bds]; omega), _, h.run.run.run, by simp [bds]⟩
theorem does_slice_ms {t e : Nat} {x : Operand} {lo hi : Option Operand} {i j : Option Int} {ty ety : Ty} {zz n off len cap : Nat} (hti : TiOK P ti) (hop : o.op = .slice t x lo hi none) (ht : tyOf P t = some ty) (hk : ty.kd = .slice e) (he : ti e = some ety)
  (hx : r x = some (.ms zz n off len cap)) (h1 : oInt r lo = some i) (h2 : oInt r hi = some j) (hl : n < nx) (hs : sliM ety.size n off len cap i j K) (hcap : len ≤ cap) : ∃ v, K v ∧ Does P mem nx r o v := by
 obtain ⟨u, inf, ht⟩ := tyOf_ok ht
 obtain ⟨ue, ie, het⟩ := tyOf_ok (hti _ _ he)
 obtain rfl := slice_of ht hk
 obtain ⟨c1, c2, c3, c4, v, hK, rfl⟩ := sliM_ok hcap hs
 refine ⟨_, hK, .of_run (lt_ms hl) fun κ g a w hi' ho => ?_⟩
 have e1 := oInt_ok (o := o) (g := g) (a := a) h1 (fun y hy => by subst hy; simp [hop, Op.operands]) ho
 have e2 := oInt_ok (o := o) (g := g) (a := a) h2 (fun y hy => by subst hy; simp [hop, Op.operands]) ho
 have hxv := ho x (by simp [hop, Op.operands]) _ hx
 generalize ha : a.eval x = q at hxv
 cases hxv with | ms _ _ _ _ _ ad had _ => ?_
 have hrun := run_bounds (P := P) true len cap (lo.map a.eval) (hi.map a.eval) none i j none e1 e2 rfl (by simp) hcap c1 c2 (by simp) c3 c4 (Nat.le_refl _) w
 refine ⟨.slice (if (bds len cap i j none).2.2 = (bds len cap i j none).1 then ad else ad.map (·.add ((bds len cap i j none).1 * ety.size))) ((bds len cap i j none).2.1 - (bds len cap i j none).1) (cap - (bds len cap i j none).1), ?_, .ms _ _ _ _ _ _ (fun h => ?_) (by omega)⟩
 ·have e3 : (bds len cap i j none).2.2 = cap := rfl
  simp only [execOp, hop, ha, Instr.sliceAt, Sem.run_bind, Sem.run_pure, Result.andThen_ok, run_underlying ht.und, Instr.slice, Option.map_none, hrun, run_sizeOf' het.info, het.size, e3]
 ·have e3 : (bds len cap i j none).2.2 = cap := rfl
  rw [e3, if_neg (by omega), had (by omega)]
  simp only [Option.map, addr_add]
theorem does_slice_arrM {t e len : Nat} {x : Operand} {lo hi : Option Operand} {i j : Option Int} {ty ety : Ty} {n off : Nat} (hti : TiOK P ti) (hop : o.op = .slice t x lo hi none) (ht : tyOf P t = some ty) (hk : ty.kd = .arr len e) (he : ti e = some ety)
  (hx : r x = some (.ptr n off)) (h1 : oInt r lo = some i) (h2 : oInt r hi = some j) (hl : n < nx) (hs : sliM ety.size n off len len i j K) : ∃ v, K v ∧ Does P mem nx r o v := by
 obtain ⟨u, inf, ht⟩ := tyOf_ok ht
 obtain ⟨ue, ie, het⟩ := tyOf_ok (hti _ _ he)
 obtain rfl := arr_of ht hk
 obtain ⟨c1, c2, c3, c4, v, hK, rfl⟩ := sliM_ok (Nat.le_refl _) hs
 refine ⟨_, hK, .of_run (lt_ms hl) fun κ g a w hi' ho => ?_⟩
 have e1 := oInt_ok (o := o) (g := g) (a := a) h1 (fun y hy => by subst hy; simp [hop, Op.operands]) ho
 have e2 := oInt_ok (o := o) (g := g) (a := a) h2 (fun y hy => by subst hy; simp [hop, Op.operands]) ho
 have hxv := ho x (by simp [hop, Op.operands]) _ hx
 generalize ha : a.eval x = q at hxv
 cases hxv with | ptr => ?_
 have hrun := run_bounds (P := P) false len len (lo.map a.eval) (hi.map a.eval) none i j none e1 e2 rfl (by simp) (Nat.le_refl _) c1 c2 (by simp) c3 c4 (Nat.le_refl _) w
 refine ⟨.slice (some (if (bds len len i j none).2.2 = (bds len len i j none).1 then ⟨g.blk n, off, none⟩ else (⟨g.blk n, off, none⟩ : Addr).add ((bds len len i j none).1 * ety.size))) ((bds len len i j none).2.1 - (bds len len i j none).1) (len - (bds len len i j none).1), ?_, .ms _ _ _ _ _ _ (fun h => ?_) (by omega)⟩
 ·have e3 : (bds len len i j none).2.2 = len := rfl
  simp only [execOp, hop, ha, Instr.sliceAt, Instr.sureAddr, Sem.run_bind, Sem.run_pure, Result.andThen_ok, run_underlying ht.und, Option.map_none, hrun, run_sizeOf' het.info, het.size, e3]
 ·have e3 : (bds len len i j none).2.2 = len := rfl
  rw [e3, if_neg (by omega), addr_add]
theorem does_conv_ms {s t e : Nat} {x : Operand} {sty ty ety : Ty} {zz n off len cap size : Nat} {c : List AV} {l : List UInt8} (hti : TiOK P ti) (hop : o.op = .convert s t x) (hs : ti s = some sty) (hsk : sty.kd = .slice e) (ht : ti t = some ty) (hk : ty.kd = .string) (he : ti e = some ety) (hek : ety.kd = .int .u8)
  (hx : r x = some (.ms zz n off len cap)) (hm : look n mem = some (.cells size c)) (hle : off + len ≤ size) (hl : (c.drop off).take len = l.map u8A) : Does P mem nx r o (.d (.st l)) := by
 obtain ⟨u, i, hs⟩ := tyOf_ok (hti _ _ hs)
 obtain ⟨u', i', ht⟩ := tyOf_ok (hti _ _ ht)
 obtain ⟨u'', i'', he⟩ := tyOf_ok (hti _ _ he)
 obtain rfl := slice_of hs hsk
 obtain rfl := string_of ht hk
 obtain rfl := int_of he hek
 refine .of_run rfl fun κ g A W hi ho => ?_
 have h1 := ho x (by simp [hop, Op.operands]) _ hx
 generalize ha : A.eval x = q at h1
 cases h1 with | ms _ _ _ _ _ ad had hc => ?_
 obtain ⟨arr, T, e1, e2, e3, e4, e5, e6⟩ := hi.obs n _ hm
 have hlen : l.length = len := by
  have := congrArg List.length hl
  simp only [List.length_take, List.length_drop, List.length_map] at this
  omega
 have main : (Conv.bytesToString (.slice ad len cap)).run P W = .ok (.string ⟨l.toArray⟩) W := by
  by_cases h0 : len = 0
  ·subst h0
   have hl0 : l = [] := List.length_eq_zero_iff.1 hlen
   subst hl0
   cases ad with
   | none => rfl
   | some ad =>
    rw [run_bytesToString W ad 0 cap [] (by simp [loadCells, loadCellsFrom])]
    rfl
  ·obtain rfl := had (by omega)
   have hld : (loadCells ⟨g.blk n, off, none⟩ len).run P W = .ok ((l.map fun b => (b.toNat : Int)).map (Value.int .u8)).toArray W := by
    have := run_loadCells_list (P := P) (w := W) ⟨g.blk n, off, none⟩ ((l.map fun b => (b.toNat : Int)).map (Value.int .u8)) (fun j v hj => by
     rw [addr_add]
     have hjl : j < l.length := by
      rcases Nat.lt_or_ge j l.length with h | h
      ·exact h
      ·simp [List.getElem?_eq_none h] at hj
     have hv' : v = .int .u8 l[j].toNat := by simpa [hjl] using hj.symm
     have hcj : c[off + j]? = some (u8A l[j]) := by
      have := congrArg (fun z => z[j]?) hl
      simp only [List.getElem?_take, List.getElem?_drop, List.getElem?_map, List.getElem?_eq_getElem hjl, Option.map_some] at this
      rw [if_pos (by omega)] at this
      exact this
     have hlt : off + j < c.length := by omega
     have hce : c[off + j] = u8A l[j] := by rw [List.getElem?_eq_getElem hlt] at hcj; exact Option.some.inj hcj
     have hr := e5 (off + j) hlt
     rw [hce] at hr
     unfold u8A at hr
     have hav : arr.getD (off + j) undef = .int .u8 l[j].toNat := by
      generalize arr.getD (off + j) undef = z at hr
      cases hr with | d _ _ h => cases h; rfl
     have hcell : W.cell? ⟨g.blk n, off + j, none⟩ = some (arr.getD (off + j) undef) := by
      simp [World.cell?, e1, Array.getD, show off + j < arr.size by omega]
     rw [hv', ← hav, ← hcell])
    simpa [hlen] using this
   rw [run_bytesToString W _ len cap _ hld, fold_bytes]
   congr 2
 exact ⟨_, by simp only [execOp, hop, ha, Sem.run_bind, run_convert_bytes_string W s t e ad len cap hs.und he.und ht.und, main, Result.andThen_ok, Sem.run_pure], .d _ _ (.st _)⟩
theorem does_len_ms {x : Operand} {ats : Array TypeId} {ty : Ty} {e zz n off len cap : Nat} (hti : TiOK P ti) (hop : o.op = .call ⟨.builtin .len, #[x], ats⟩) {t : Nat} (ht : ti t = some ty) (hk : ty.kd = .slice e) (h0 : ats[0]? = some t) (hx : r x = some (.ms zz n off len cap)) : Does P mem nx r o (.d (.it .i64 len)) := by
 obtain ⟨u, i, ht⟩ := tyOf_ok (hti _ _ ht)
 obtain rfl := slice_of ht hk
 refine .of_run rfl fun κ g a w hi ho => ⟨.int .i64 len, ?_, .d _ _ (.it _ _)⟩
 have h1 := ho x (by simp [hop, Op.operands, Call.operands]) _ hx
 generalize ha : a.eval x = q at h1
 cases h1 with | ms _ _ _ _ _ ad had hc => ?_
 rw [run_call_builtin hop]
 simp [builtin, Builtin.len_, ha, h0, run_underlying ht.und, goInt]
theorem lt_vx {m sz n i len : Nat} (h : n < m) : (AV.vx sz n i len).lt m = true := by simp [AV.lt, AV.lt2, AV.lt1, AV.lt0, h]
theorem lt_vq {m sz n k off : Nat} (h : n < m) : (AV.vq sz n k off).lt m = true := by simp [AV.lt, AV.lt2, AV.lt1, AV.lt0, h]
theorem of_lt_vx {m sz n i len : Nat} (h : (AV.vx sz n i len).lt m = true) : n < m := by simpa [AV.lt, AV.lt2, AV.lt1, AV.lt0] using h
theorem of_lt_vq {m sz n k off : Nat} (h : (AV.vq sz n k off).lt m = true) : n < m := by simpa [AV.lt, AV.lt2, AV.lt1, AV.lt0] using h
theorem does_len_vx {x : Operand} {ats : Array TypeId} {ty : Ty} {e sz n i len : Nat} (hti : TiOK P ti) (hop : o.op = .call ⟨.builtin .len, #[x], ats⟩) {t : Nat} (ht : ti t = some ty) (hk : ty.kd = .slice e) (h0 : ats[0]? = some t) (hx : r x = some (.vx sz n i len)) : Does P mem nx r o (.d (.it .i64 len)) := by
 obtain ⟨u, inf, ht⟩ := tyOf_ok (hti _ _ ht)
 obtain rfl := slice_of ht hk
 refine .of_run rfl fun κ g a w hi ho => ⟨.int .i64 len, ?_, .d _ _ (.it _ _)⟩
 have h1 := ho x (by simp [hop, Op.operands, Call.operands]) _ hx
 generalize ha : a.eval x = q at h1
 cases h1 with | vx _ _ _ _ ad c hc had => ?_
 rw [run_call_builtin hop]
 simp [builtin, Builtin.len_, ha, h0, run_underlying ht.und, goInt]
theorem does_indexAddr_vx {t e tt : Nat} {x y : Operand} {ty ety : Ty} {sz n i0 len : Nat} {k : IntKind} {j : Int} {es : List (List D)} (hti : TiOK P ti) (hop : o.op = .indexAddr t x y) (ht : tyOf P t = some ty) (hk : ty.kd = .slice e) (he : ti e = some ety) (hsz : sz = ety.size)
  (hx : r x = some (.vx sz n i0 len)) (hy : r y = some (.d (.it k j))) {fl : Bool} (hm : look n mem = some (.vec tt sz es fl)) (hn : 0 ≤ j ∧ j < len ∧ i0 + len ≤ es.length) (hl : n < nx) : Does P mem nx r o (.vq sz n (i0 + j.toNat) 0) := by
 obtain ⟨u, i, ht⟩ := tyOf_ok ht
 obtain ⟨ue, ie, het⟩ := tyOf_ok (hti _ _ he)
 obtain rfl := slice_of ht hk
 refine .of_run (lt_vq hl) fun κ g a w hi ho => ?_
 have h1 := ho x (by simp [hop, Op.operands]) _ hx
 have h2 := evalInt (ho y (by simp [hop, Op.operands]) _ hy)
 generalize ha : a.eval x = q at h1
 cases h1 with | vx _ _ _ _ ad c hc had => ?_
 obtain ⟨hh, rfl, hcp⟩ := had.pos (by omega)
 have hcond : (0 : Int) ≤ j ∧ j < (len : Int) := ⟨hn.1, hn.2.1⟩
 have hv := AVR.vq (g := g) sz n (i0 + j.toNat) 0 hh
 rw [show g.hi n + (i0 + j.toNat) * sz + 0 = g.hi n + i0 * sz + j.toNat * sz by rw [Nat.add_mul]; omega] at hv
 refine ⟨_, ?_, hv⟩
 simp only [execOp, hop, ha, h2, Instr.indexAt, asIntOf, Sem.run_bind, Sem.run_pure, Result.andThen_ok, run_underlying ht.und, Sem.run_ite]
 rw [if_pos hcond]
 simp only [Sem.run_bind, run_sizeOf' het.info, Result.andThen_ok, Sem.run_pure, addr_add, het.size, hsz]
theorem does_load_vq {t tt sz n k off : Nat} {x : Operand} {ty : Ty} {es : List (List D)} {c : List D} (hop : o.op = .load t x) (ht : tyOf P t = some ty) (hr : r x = some (.vq sz n k off)) {fl : Bool} (hm : look n mem = some (.vec tt sz es fl)) (hs : off + ty.size ≤ sz) (h0 : off < sz) (hk : k < es.length) (hc : es[k]? = some c) : Does P mem nx r o (ldD ty (c.drop off)) := by
 obtain ⟨u, i, ht⟩ := tyOf_ok ht
 refine .of_run ldD_lt fun κ g a w hi ho => ?_
 have h1 := ho x (by simp [hop, Op.operands]) _ hr
 generalize ha : a.eval x = q at h1
 cases h1 with | vq _ _ _ _ hh => ?_
 obtain ⟨v1, v2, v3⟩ := hi.obs n _ hm
 obtain ⟨arr, e1, e2, e3, e4, e5, _, _⟩ := v3 hh
 have hck : es[k] = c := by rw [List.getElem?_eq_getElem hk] at hc; exact Option.some.inj hc
 have hcl : c.length = sz := by rw [← hck]; exact v1 _ (List.getElem_mem hk)
 have hb : k * sz + sz ≤ g.cp n := by
  have : (k + 1) * sz ≤ es.length * sz := Nat.mul_le_mul_right _ (by omega)
  rw [Nat.add_mul] at this; omega
 have hcell : ∀ j, j < arr.size → w.cell? ⟨g.blk n, j, none⟩ = some (arr.getD j undef) := fun j hj => by
  simp [World.cell?, e1, Array.getD, hj]
 have hd : ∀ j (h : j < (c.drop off).length), DR g.F (c.drop off)[j] (arr.getD (g.hi n + k * sz + off + j) undef) := fun j h => by
  simp only [List.length_drop] at h
  have := e4 k hk (off + j) (by rw [hck]; omega)
  rw [List.getElem_drop]
  have e : es[k][off + j]'(by rw [hck]; omega) = c[off + j] := by simp only [hck]
  rw [e, ← Nat.add_assoc] at this
  exact this
 refine ⟨_, ?_, ldD_ok (f := fun j => arr.getD (g.hi n + k * sz + off + j) undef) hd (by rw [List.length_drop]; omega) (by rw [List.length_drop]; omega)⟩
 simp only [execOp, hop, ha, Instr.loadAt, Instr.sureAddr, Sem.run_bind, Sem.run_pure, Result.andThen_ok]
 rw [run_loadVar ht (f := fun j => arr.getD (g.hi n + k * sz + off + j) undef) (fun j hj => hcell _ (by omega)) (hcell _ (by omega))]
 rfl
theorem sliV_ok {sz n i len lim : Nat} {lo hi : Option Int} (h : sliV sz n i len lim lo hi K) : (∀ x, lo = some x → 0 ≤ x) ∧ (∀ x, hi = some x → 0 ≤ x) ∧ (lo.map Int.toNat).getD 0 ≤ (hi.map Int.toNat).getD len ∧ ((hi.map Int.toNat).getD len ≤ len ∨ (hi.map Int.toNat).getD len ≤ lim) ∧
  ∃ v, K v ∧ v = .vx sz n (i + (lo.map Int.toNat).getD 0) ((hi.map Int.toNat).getD len - (lo.map Int.toNat).getD 0) := by
 unfold sliV at h
 split at h
 ·exact ⟨(fun _ h => by cases h), (fun _ h => by cases h), Nat.zero_le _, .inl (Nat.le_refl _), _, h, by simp⟩
 ·rename_i b
  refine ⟨(fun _ h => by cases h), (fun x hx => by cases hx; exact h.1.1), Nat.zero_le _, .inr (by simp; omega), _, h.2.run, by simp⟩
 ·rename_i b
  refine ⟨(fun x hx => by cases hx; exact h.1.1), (fun _ h => by cases h), by simp; omega, .inl (Nat.le_refl _), _, h.2.run.run, by simp⟩
 ·rename_i b c
  refine ⟨(fun x hx => by cases hx; exact h.1.1), (fun x hx => by cases hx; omega), by simp; omega, .inr (by simp; omega), _, h.2.run.run, by simp⟩
theorem vx_lim {g : Gh} {w : World} {sz n i c t : Nat} {ad : Option Addr} {es : List (List D)} {fl : Bool} (hv : VecOK g w n t sz es fl) (had : VxOK g sz n i ad c) (h0 : 0 < sz) : es.length - i ≤ c := by
 cases hh : g.has n with
 | false => rw [hv.2.1 hh]; exact Nat.le_trans (Nat.sub_le _ _) (Nat.zero_le _)
 | true =>
  obtain ⟨arr, e1, e2, e3, _⟩ := hv.2.2 hh
  rw [← had.1 hh] at e3
  have := Nat.le_of_mul_le_mul_right e3 h0
  omega
theorem does_slice_vx {t e : Nat} {x : Operand} {lo hi : Option Operand} {i j : Option Int} {ty ety : Ty} {sz n i0 len tt : Nat} {es : List (List D)} {fl : Bool} (hti : TiOK P ti) (hop : o.op = .slice t x lo hi none) (ht : tyOf P t = some ty) (hk : ty.kd = .slice e) (he : ti e = some ety) (hsz : sz = ety.size) (h0 : 0 < sz)
  (hx : r x = some (.vx sz n i0 len)) (hm : look n mem = some (.vec tt sz es fl)) (h1 : oInt r lo = some i) (h2 : oInt r hi = some j) (hl : n < nx) (hs : sliV sz n i0 len (es.length - i0) i j K) : ∃ v, K v ∧ Does P mem nx r o v := by
 obtain ⟨u, inf, ht⟩ := tyOf_ok ht
 obtain ⟨ue, ie, het⟩ := tyOf_ok (hti _ _ he)
 obtain rfl := slice_of ht hk
 obtain ⟨c1, c2, c3, c4, v, hK, rfl⟩ := sliV_ok hs
 refine ⟨_, hK, .of_run (lt_vx hl) fun κ g a w hi' ho => ?_⟩
 have e1 := oInt_ok (o := o) (g := g) (a := a) h1 (fun y hy => by subst hy; simp [hop, Op.operands]) ho
 have e2 := oInt_ok (o := o) (g := g) (a := a) h2 (fun y hy => by subst hy; simp [hop, Op.operands]) ho
 have hxv := ho x (by simp [hop, Op.operands]) _ hx
 generalize ha : a.eval x = q at hxv
 cases hxv with | vx _ _ _ _ ad c hc had => ?_
 have hlim : es.length - i0 ≤ c := vx_lim (hi'.obs n _ hm) had h0
 have hle : (j.map Int.toNat).getD len ≤ c := by omega
 have hrun := run_bounds (P := P) true len c (lo.map a.eval) (hi.map a.eval) none i j none e1 e2 rfl (by simp) hc c1 c2 (by simp) c3 hle (Nat.le_refl _) w
 have b1 : (bds len c i j none).1 = (i.map Int.toNat).getD 0 := rfl
 have b2 : (bds len c i j none).2.1 = (j.map Int.toNat).getD len := rfl
 have b3 : (bds len c i j none).2.2 = c := rfl
 refine ⟨.slice (if c = (i.map Int.toNat).getD 0 then ad else ad.map (·.add ((i.map Int.toNat).getD 0 * ety.size))) ((j.map Int.toNat).getD len - (i.map Int.toNat).getD 0) (c - (i.map Int.toNat).getD 0), ?_, .vx _ _ _ _ _ _ (by omega) ⟨fun h => ?_, fun h => ?_, fun h => ?_⟩⟩
 ·simp only [execOp, hop, ha, Instr.sliceAt, Sem.run_bind, Sem.run_pure, Result.andThen_ok, run_underlying ht.und, Instr.slice, Option.map_none, hrun, run_sizeOf' het.info, het.size, b1, b2, b3]
 ·rw [← had.1 h]; congr 1; omega
 ·have := had.2.1 h; omega
 ·obtain ⟨q1, q2, q3⟩ := had.pos (by omega)
  rw [if_neg (by omega), q2]
  show some (Addr.add _ _) = _
  rw [addr_add, ← hsz, Nat.add_mul, ← Nat.add_assoc]
theorem argsA_ok {g : Gh} {a : Act} : ∀ {l : List Operand} {args : List AV}, argsA r l = some args → (∀ x ∈ l, ∀ v, r x = some v → AVR g v (a.eval x)) → args.length = l.length ∧ ∀ j (h : j < args.length) (h' : j < l.length), AVR g args[j] (a.eval l[j])
 | [], args, h, _ => by obtain rfl := Option.some.inj h; exact ⟨rfl, fun j h => by cases h⟩
 | x :: t, args, h, ho => by
  simp only [argsA] at h
  split at h
  ·rename_i v l h1 h2
   obtain rfl := Option.some.inj h
   obtain ⟨i1, i2⟩ := argsA_ok (g := g) (a := a) h2 (fun x hx => ho x (List.mem_cons_of_mem _ hx))
   refine ⟨by simp [i1], fun j h h' => ?_⟩
   cases j with
   | zero => exact ho x List.mem_cons_self v h1
   | succ j => exact i2 j (by simpa using h) (by simpa using h')
  ·cases h
theorem argsA_mem {l : List Operand} {args : List AV} (h : argsA r l = some args) {v : AV} (hv : v ∈ args) : ∃ x ∈ l, r x = some v := by
 induction l generalizing args with
 | nil => obtain rfl := Option.some.inj h; cases hv
 | cons x t ih =>
  simp only [argsA] at h
  split at h
  ·rename_i u l h1 h2
   obtain rfl := Option.some.inj h
   rcases List.mem_cons.1 hv with rfl | hv
   ·exact ⟨x, List.mem_cons_self, h1⟩
   ·obtain ⟨y, hy, e⟩ := ih h2 hv
    exact ⟨y, List.mem_cons_of_mem _ hy, e⟩
  ·cases h
theorem flat_lt {v : AV} {m : Nat} (hf : v.flat = true) (h : v.lt m = true) : v.lt0 m = true := by
 cases v <;> first | exact h | cases hf
theorem does_makeFunc {fn : Fn} {first caps : Array Operand} {f c : List AV} (hop : o.op = .makeFunc fn first caps) (hf : argsA r first.toList = some f) (hc : argsA r caps.toList = some c) (h1 : f.all AV.flat = true) (h2 : c.all AV.flat = true)
  (hlt : ∀ x v, r x = some v → v.lt nx = true) : Does P mem nx r o (.fn fn f c) := by
 rw [List.all_eq_true] at h1 h2
 refine .of_run ?_ fun κ g a w hi ho => ⟨.func fn (first.map a.eval) (caps.map a.eval), ?_, ?_⟩
 ·simp only [AV.lt, AV.lt2, AV.lt1, List.all_eq_true, Bool.and_eq_true]
  refine ⟨fun v hv => ?_, fun v hv => ?_⟩
  ·obtain ⟨x, _, e⟩ := argsA_mem hf hv
   exact flat_lt (h1 v hv) (hlt x v e)
  ·obtain ⟨x, _, e⟩ := argsA_mem hc hv
   exact flat_lt (h2 v hv) (hlt x v e)
 ·simp only [execOp, hop, Instr.makeFunc, Sem.run_bind, Sem.run_pure, Result.andThen_ok]
 ·obtain ⟨a1, a2⟩ := argsA_ok (g := g) (a := a) hf (fun x hx v hv => ho x (by simp only [hop, Op.operands]; simp at hx ⊢; exact .inl hx) v hv)
  obtain ⟨b1, b2⟩ := argsA_ok (g := g) (a := a) hc (fun x hx v hv => ho x (by simp only [hop, Op.operands]; simp at hx ⊢; exact .inr hx) v hv)
  refine .fn _ _ _ _ _ (by simp [a1]) (by simp [b1]) (fun j hj => ?_) fun j hj => ?_
  ·have h' : j < first.size := by simpa using (a1 ▸ hj : j < first.toList.length)
   have := a2 j hj (by simpa using h')
   simpa [Array.getD, h'] using this
  ·have h' : j < caps.size := by simpa using (b1 ▸ hj : j < caps.toList.length)
   have := b2 j hj (by simpa using h')
   simpa [Array.getD, h'] using this
theorem run_eql_nil {P : Program} {tp te : TypeId} (w : World) (a : Option Addr) (hp : P.underlying tp = some (.pointer te)) : (binOp .eql tp (.pointer a) (.pointer none)).run P w = .ok (.bool a.isNone) w := by
 have h : ∀ d : Nat, (Op.equalIn (d + 1) tp (.pointer a) (.pointer none)).run P w = .ok a.isNone w := fun d => by
  cases a <;> simp [Op.equalIn, run_underlying hp]
 simp only [binOp]
 simp [Op.equal, Op.maxDepth, h 9999]
theorem run_neq_of {P : Program} {tp : TypeId} {x y : Option Addr} {b : Bool} {w : World} (h : (binOp .eql tp (.pointer x) (.pointer y)).run P w = .ok (.bool b) w) : (binOp .neq tp (.pointer x) (.pointer y)).run P w = .ok (.bool (!b)) w := by
 simp only [binOp, Sem.run_bind] at h ⊢
 cases hq : (Op.equal tp (.pointer x) (.pointer y)).run P w with
 | ok v w' =>
  rw [hq] at h
  simp only [Result.andThen_ok, Sem.run_pure, Result.ok.injEq, Value.bool.injEq] at h ⊢
  obtain ⟨rfl, rfl⟩ := h
  exact ⟨rfl, rfl⟩
 | halt p w' => rw [hq] at h; simp at h
theorem ptr_of {t : Nat} {ty : Ty} {u : TypeDesc} {i : TypeInfo} {e : Nat} (ht : TyOK P t ty u i) (hk : ty.kd = .ptr e) : u = .pointer e := by
 have hkd := ht.kd
 rw [hk] at hkd
 cases u <;> simp only [kdOf] at hkd <;> first | (cases hkd; done) | skip
 cases hkd; rfl
theorem does_cmpP {op : BinOp} {t t' e : Nat} {x y : Operand} {u v : AV} {ty : Ty} {b : Bool} (hti : TiOK P ti) (hop : o.op = .binOp op t x y t') (ht : ti t = some ty) (hk : ty.kd = .ptr e) (hx : r x = some u) (hy : r y = some v) (ho : op = .eql ∨ op = .neq)
  (h : ∀ (g : Gh) (p q : Value) (w : World), AVR g u p → AVR g v q → P.underlying t = some (.pointer e) → ∃ a c, p = .pointer a ∧ q = .pointer c ∧ (binOp .eql t (.pointer a) (.pointer c)).run P w = .ok (.bool b) w) : Does P mem nx r o (.d (.bl (match op with | .neq => !b | _ => b))) := by
 obtain ⟨uu, i, ht⟩ := tyOf_ok (hti _ _ ht)
 obtain rfl := ptr_of ht hk
 refine .of_run rfl fun κ g a w hi hoo => ?_
 obtain ⟨p, q, e1, e2, e3⟩ := h g _ _ w (hoo x (by simp [hop, Op.operands]) _ hx) (hoo y (by simp [hop, Op.operands]) _ hy) ht.und
 have eg : ∀ op, (eqGuard op t x y (.pointer p) (.pointer q)).run P w = .ok () w := fun op => by cases op <;> rfl
 rcases ho with rfl | rfl
 ·exact ⟨_, by simp only [execOp, hop, e1, e2, Sem.run_bind, eg, Result.andThen_ok, e3, Sem.run_pure], .d _ _ (.bl _)⟩
 ·exact ⟨_, by simp only [execOp, hop, e1, e2, Sem.run_bind, eg, Result.andThen_ok, run_neq_of e3, Sem.run_pure], .d _ _ (.bl _)⟩
theorem ptr_val {g : Gh} {n off : Nat} {v : Value} (h : AVR g (.ptr n off) v) : v = .pointer (some ⟨g.blk n, off, none⟩) := by cases h; rfl
theorem nilp_val {g : Gh} {v : Value} (h : AVR g (.d (.ot (.pointer none))) v) : v = .pointer none := by cases h with | d _ _ h => cases h; rfl
theorem fp_val {g : Gh} {k : Nat} {cs : List D} {v : Value} (h : AVR g (.d (.fp k cs)) v) : ∃ a, v = .pointer (some a) := by cases h with | d _ _ h => cases h; exact ⟨_, rfl⟩
theorem cmp_same {g : Gh} {n m a b t e : Nat} {p q : Value} {w : World} (hti : TiOK P ti) (hs : (Nat.beq n m && Nat.beq a b && (ti e).isSome) = true) (h1 : AVR g (.ptr n a) p) (h2 : AVR g (.ptr m b) q) (hu : P.underlying t = some (.pointer e)) :
  ∃ a c, p = .pointer a ∧ q = .pointer c ∧ (binOp .eql t (.pointer a) (.pointer c)).run P w = .ok (.bool true) w := by
 simp only [Bool.and_eq_true] at hs
 obtain ⟨⟨hn, ha⟩, he⟩ := hs
 obtain rfl := Nat.eq_of_beq_eq_true hn
 obtain rfl := Nat.eq_of_beq_eq_true ha
 obtain ⟨ety, he⟩ := Option.isSome_iff_exists.1 he
 obtain ⟨_, i, hte⟩ := tyOf_ok (hti _ _ he)
 exact ⟨_, _, ptr_val h1, ptr_val h2, run_eql_ptr_same w _ hu hte.info⟩
theorem unsafe_of {t : Nat} {ty : Ty} {u : TypeDesc} {i : TypeInfo} (ht : TyOK P t ty u i) (hk : ty.kd = .usafe) : u = .unsafePointer := by
 have hkd := ht.kd
 rw [hk] at hkd
 cases u <;> simp only [kdOf] at hkd <;> first | (cases hkd; done) | rfl
theorem liesAt_self {P : Program} {e s cells : Nat} (hc : P.cellsOf e = s) (h0 : 0 < s) (hle : s ≤ cells) : liesAt P P.depth e (cells / P.cellsOf e) 0 e 1 = true := by
 have hd : P.depth = (2 * (P.types.size + Made.depth) + 1) + 1 := rfl
 rw [hd]
 simp only [liesAt, Bool.or_eq_true]
 left
 rw [hd]
 have h1 : 1 ≤ cells / s := by rw [Nat.le_div_iff_mul_le h0]; omega
 simp [rowAt, hc, sameLayout, show s ≠ 0 by omega, h1]
theorem does_conv_toU {s t e n off size : Nat} {x : Operand} {sty ty ety : Ty} {c : List AV} (hti : TiOK P ti) (hop : o.op = .convert s t x) (hs : ti s = some sty) (hsk : sty.kd = .ptr e) (ht : ti t = some ty) (hk : ty.kd = .usafe) (he : ti e = some ety)
  (hx : r x = some (.ptr n off)) (hm : look n mem = some (.cells size c)) (h0 : 0 < ety.size) (hoff : off < size) (hl : n < nx) : Does P mem nx r o (.ptr n off) := by
 obtain ⟨u, i, hs⟩ := tyOf_ok (hti _ _ hs)
 obtain ⟨u', i', ht⟩ := tyOf_ok (hti _ _ ht)
 obtain ⟨u'', i'', he⟩ := tyOf_ok (hti _ _ he)
 obtain rfl := ptr_of hs hsk
 obtain rfl := unsafe_of ht hk
 refine .of_run (lt_ptr hl) fun κ g a w hi ho => ?_
 have h1 := ptr_val (ho x (by simp [hop, Op.operands]) _ hx)
 obtain ⟨arr, T, e1, e2, _⟩ := hi.obs n _ hm
 refine ⟨_, ?_, .ptr _ _⟩
 have := Lib.run_to_unsafe w (src := s) (dst := t) (t := e) (e := T) (j := i'') (cells := arr.size) ⟨g.blk n, off, none⟩ hs.und ht.und he.info (by rw [he.size]; omega) (by simp [World.shape?, e1]) (by show off < arr.size; omega)
 simp only [execOp, hop, h1, Sem.run_bind, this, Result.andThen_ok, Sem.run_pure]
theorem does_conv_ofU {s t e n off size m t' : Nat} {x : Operand} {sty ty ety : Ty} {c : List AV} (hti : TiOK P ti) (hop : o.op = .convert s t x) (hs : ti s = some sty) (hsk : sty.kd = .usafe) (ht : ti t = some ty) (hk : ty.kd = .ptr e) (he : ti e = some ety)
  (hx : r x = some (.ptr n off)) (hm : look n mem = some (.cells size c)) (htag : look (n + 1) mem = some (.tag m t')) (hb : (Nat.beq m n && Nat.beq t' e && (Nat.beq off 0 && Nat.ble ety.size size && Nat.blt 0 ety.size)) = true) (hl : n < nx) : Does P mem nx r o (.ptr n off) := by
 simp only [Bool.and_eq_true, Nat.blt_eq] at hb
 obtain ⟨⟨b1, b2⟩, ⟨b3, b4⟩, b5⟩ := hb
 obtain rfl := Nat.eq_of_beq_eq_true b1
 obtain rfl := Nat.eq_of_beq_eq_true b2
 obtain rfl := Nat.eq_of_beq_eq_true b3
 have b4 := Nat.le_of_ble_eq_true b4
 obtain ⟨u, i, hs⟩ := tyOf_ok (hti _ _ hs)
 obtain ⟨u', i', ht⟩ := tyOf_ok (hti _ _ ht)
 obtain ⟨u'', i'', he⟩ := tyOf_ok (hti _ _ he)
 obtain rfl := unsafe_of hs hsk
 obtain rfl := ptr_of ht hk
 refine .of_run (lt_ptr hl) fun κ g a w hi ho => ?_
 have h1 := ptr_val (ho x (by simp [hop, Op.operands]) _ hx)
 obtain ⟨arr, T, e1, e2, _⟩ := hi.obs m _ hm
 obtain ⟨arr', fz, e3⟩ := hi.obs _ _ htag
 rw [e1] at e3
 cases e3
 refine ⟨_, ?_, .ptr _ _⟩
 have hcell : P.cellsOf t' = ety.size := by simp [Program.cellsOf, he.info, he.size]
 have := Lib.run_from_unsafe w (src := s) (dst := t) (u := t') (e := t') (j := i'') (cells := arr.size) ⟨g.blk m, 0, none⟩ hs.und ht.und he.info (by simp [World.shape?, e1]) (liesAt_self hcell b5 (by omega))
 simp only [execOp, hop, h1, Sem.run_bind, this, Result.andThen_ok, Sem.run_pure]
theorem does_sliceData {x : Operand} {ats : Array TypeId} {es : List (List D)} {n t : Nat} (hop : o.op = .call ⟨.builtin .unsafeSliceData, #[x], ats⟩) (hx : r x = some (.ts 1 es n)) (hm : look n mem = some (.tail t true)) (hl : n < nx) : Does P mem nx r o (.sd es n) := by
 refine .of_run (by simp [AV.lt, AV.lt2, AV.lt1, AV.lt0, hl]) fun κ g a w hi ho => ?_
 have h1 := ho x (by simp [hop, Op.operands, Call.operands]) _ hx
 have hob := hi.obs n _ hm
 generalize ha : a.eval x = q at h1
 cases h1 with
 | ts0 _ _ _ ad len hl hd hh hz =>
  obtain ⟨rfl, rfl⟩ := hz (hob.2 rfl hh)
  refine ⟨.pointer none, ?_, .sd _ _ _ fun h => (h rfl).elim⟩
  rw [run_call_builtin hop]
  simp [builtin, ha, Lib.run_unsafeSliceData_nil]
 | ts _ _ _ off len cap h0 hn hd hl hc h1 h2 hpos =>
  refine ⟨.pointer (some ⟨g.blk n, off, none⟩), ?_, .sd _ _ _ fun _ => ⟨off, len, cap, rfl, hn, hd, hl, by omega⟩⟩
  rw [run_call_builtin hop]
  have hc0 : cap ≠ 0 := by omega
  simp [builtin, ha, Lib.run_unsafeSliceData_row (hc := hc0)]
theorem does_sliceData_nil {x : Operand} {ats : Array TypeId} {sz : Nat} (hop : o.op = .call ⟨.builtin .unsafeSliceData, #[x], ats⟩) (hx : r x = some (.nl sz)) : Does P mem nx r o (.d (.ot (.pointer none))) := by
 refine .of_run rfl fun κ g a w hi ho => ⟨.pointer none, ?_, .d _ _ (.ot _ rfl)⟩
 have h1 := ho x (by simp [hop, Op.operands, Call.operands]) _ hx
 generalize ha : a.eval x = q at h1
 cases h1
 rw [run_call_builtin hop]
 simp [builtin, ha, Lib.run_unsafeSliceData_nil]
theorem evValM_sound (hti : TiOK P ti) (hlt : ∀ x v, r x = some v → v.lt nx = true) {p : Prop} (h : evValM ti mem r o K = some p) (hp : p) : ∃ v, K v ∧ Does P mem nx r o v := by
 unfold evValM at h
 split at h
 ·rename_i t x i hop
  split at h
  ·rename_i zz n off len cap hx
   obtain rfl := Option.some.inj h
   split at hp
   ·rename_i e sz by' z cmp pl k j ht hi
    split at hp
    ·rename_i ety he
     exact ⟨_, hp.2.run, does_indexAddr_ms hti hop (hti _ _ ht) rfl he hx hi hp.1 (of_lt_ms (hlt _ _ hx))⟩
    ·exact hp.elim
   ·exact hp.elim
  ·rename_i n off hx
   obtain rfl := Option.some.inj h
   split at hp
   ·rename_i len e sz by' z cmp pl k j ht hi
    split at hp
    ·rename_i ety he
     exact ⟨_, hp.2.run, does_indexAddr_arrM hti hop (hti _ _ ht) rfl he hx hi hp.1 (of_lt_ptr (hlt _ _ hx))⟩
    ·exact hp.elim
   ·exact hp.elim
  ·rename_i sz n i0 len hx
   obtain rfl := Option.some.inj h
   split at hp
   ·rename_i e _ _ _ _ _ k j tt sz' es fl ht hi hm
    split at hp
    ·rename_i ety he
     obtain ⟨hb, hK⟩ := bif_ok hp
     simp only [Bool.and_eq_true] at hb
     have hs := Nat.eq_of_beq_eq_true hb.1
     obtain rfl := Nat.eq_of_beq_eq_true hb.2
     exact ⟨_, hK.2.run, does_indexAddr_vx hti hop (hti _ _ ht) rfl he hs hx hi hm hK.1 (of_lt_vx (hlt _ _ hx))⟩
    ·exact hp.elim
   ·exact hp.elim
  ·cases h
 ·rename_i t x f hop
  split at h
  ·rename_i sz n k off hx
   obtain rfl := Option.some.inj h
   split at hp
   ·rename_i fs _ _ _ _ _ ht
    split at hp
    ·rename_i fo fsz hf
     obtain ⟨hb, hK⟩ := bif_ok hp
     exact ⟨_, hK, does_fieldAddr hti hop (hti _ _ ht) rfl hf (by simpa using hb) hx (.inr (.inr ⟨_, _, _, _, rfl, rfl, of_lt_vq (hlt _ _ hx)⟩))⟩
    ·exact hp.elim
   ·exact hp.elim
  ·cases h
 ·rename_i t x hop
  split at h
  ·rename_i sz n k off hx
   obtain rfl := Option.some.inj h
   split at hp
   ·rename_i ty tt sz' es fl ht hm
    obtain ⟨hb, hK⟩ := bif_ok hp
    simp only [Bool.and_eq_true, Nat.blt_eq] at hb
    obtain ⟨⟨hb1, hb2⟩, hb3⟩ := hb
    obtain rfl := Nat.eq_of_beq_eq_true hb1
    obtain ⟨hk, hK⟩ := hK
    exact ⟨_, AtA.bif (hK _ (List.getElem?_eq_getElem hk)), does_load_vq hop (hti _ _ ht) hx hm (Nat.le_of_ble_eq_true hb2) hb3 hk (List.getElem?_eq_getElem hk)⟩
   ·exact hp.elim
  ·cases h
 ·rename_i t x lo hi hop
  split at h
  ·rename_i zz n off len cap hx
   obtain rfl := Option.some.inj h
   split at hp
   ·rename_i e sz by' z cmp pl i j ht h1 h2
    split at hp
    ·rename_i ety he
     exact does_slice_ms hti hop (hti _ _ ht) rfl he hx h1 h2 (of_lt_ms (hlt _ _ hx)) hp.2 hp.1
    ·exact hp.elim
   ·exact hp.elim
  ·rename_i n off hx
   obtain rfl := Option.some.inj h
   split at hp
   ·rename_i len e sz by' z cmp pl i j ht h1 h2
    split at hp
    ·rename_i ety he
     exact does_slice_arrM hti hop (hti _ _ ht) rfl he hx h1 h2 (of_lt_ptr (hlt _ _ hx)) hp
    ·exact hp.elim
   ·exact hp.elim
  ·rename_i sz n i len hx
   obtain rfl := Option.some.inj h
   split at hp
   ·rename_i e _ _ _ _ _ i' j' tt sz' es fl ht h1 h2 hm
    split at hp
    ·rename_i ety he
     obtain ⟨hb, hK⟩ := bif_ok hp
     simp only [Bool.and_eq_true, Nat.blt_eq] at hb
     obtain ⟨⟨hb1, hb2⟩, hb3⟩ := hb
     have hb1 := Nat.eq_of_beq_eq_true hb1
     obtain rfl := Nat.eq_of_beq_eq_true hb2
     exact does_slice_vx hti hop (hti _ _ ht) rfl he hb1 hb3 hx hm h1 h2 (of_lt_vx (hlt _ _ hx)) hK
    ·exact hp.elim
   ·exact hp.elim
  ·cases h
 ·rename_i s t x hop
  split at h
  ·rename_i zz n off len cap hx
   obtain rfl := Option.some.inj h
   split at hp
   ·rename_i hs ht hm
    split at hp
    ·rename_i he
     obtain ⟨l, ⟨h1, h2⟩, hK⟩ := hp
     exact ⟨_, hK, does_conv_ms hti hop hs rfl ht rfl he rfl hx hm h1 h2⟩
    ·exact hp.elim
   ·exact hp.elim
  ·rename_i n off hx
   obtain rfl := Option.some.inj h
   split at hp
   ·rename_i hs ht hm
    split at hp
    ·rename_i ety he
     obtain ⟨hb, hK⟩ := bif_ok hp
     simp only [Bool.and_eq_true, Nat.blt_eq] at hb
     exact ⟨_, hK, does_conv_toU hti hop hs rfl ht rfl he hx hm hb.1 hb.2 (of_lt_ptr (hlt _ _ hx))⟩
    ·exact hp.elim
   ·rename_i hs ht hm
    split at hp
    ·rename_i m t' ety htag he
     obtain ⟨hb, hK⟩ := bif_ok hp
     exact ⟨_, hK, does_conv_ofU hti hop hs rfl ht rfl he hx hm htag hb (of_lt_ptr (hlt _ _ hx))⟩
    ·exact hp.elim
   ·exact hp.elim
  ·cases h
 ·rename_i op t x y t' hop
  have hlx := hlt
  split at h
  ·rename_i n a m b e sz by' z cmp pl hx hy ht
   obtain rfl := Option.some.inj h
   obtain ⟨hb, hK⟩ := bif_ok hp
   exact ⟨_, hK, does_cmpP (b := true) hti hop ht rfl hx hy (.inl rfl) fun g p q w h1 h2 hu => cmp_same hti hb h1 h2 hu⟩
  ·rename_i n a m b e sz by' z cmp pl hx hy ht
   obtain rfl := Option.some.inj h
   obtain ⟨hb, hK⟩ := bif_ok hp
   exact ⟨_, hK, does_cmpP (b := true) hti hop ht rfl hx hy (.inr rfl) fun g p q w h1 h2 hu => cmp_same hti hb h1 h2 hu⟩
  ·rename_i n a e sz by' z cmp pl hx hy ht
   obtain rfl := Option.some.inj h
   exact ⟨_, hp, does_cmpP (b := false) hti hop ht rfl hx hy (.inl rfl) fun g p q w h1 h2 hu => ⟨_, _, ptr_val h1, nilp_val h2, run_eql_nil w _ hu⟩⟩
  ·rename_i n a e sz by' z cmp pl hx hy ht
   obtain rfl := Option.some.inj h
   exact ⟨_, hp, does_cmpP (b := false) hti hop ht rfl hx hy (.inr rfl) fun g p q w h1 h2 hu => ⟨_, _, ptr_val h1, nilp_val h2, run_eql_nil w _ hu⟩⟩
  ·rename_i k cs e sz by' z cmp pl hx hy ht
   obtain rfl := Option.some.inj h
   exact ⟨_, hp, does_cmpP (b := false) hti hop ht rfl hx hy (.inl rfl) fun g p q w h1 h2 hu => by obtain ⟨a, rfl⟩ := fp_val h1; exact ⟨_, _, rfl, nilp_val h2, run_eql_nil w _ hu⟩⟩
  ·rename_i k cs e sz by' z cmp pl hx hy ht
   obtain rfl := Option.some.inj h
   exact ⟨_, hp, does_cmpP (b := false) hti hop ht rfl hx hy (.inr rfl) fun g p q w h1 h2 hu => by obtain ⟨a, rfl⟩ := fp_val h1; exact ⟨_, _, rfl, nilp_val h2, run_eql_nil w _ hu⟩⟩
  ·rename_i e sz by' z cmp pl hx hy ht
   obtain rfl := Option.some.inj h
   exact ⟨_, hp, does_cmpP (b := true) hti hop ht rfl hx hy (.inl rfl) fun g p q w h1 h2 hu => ⟨_, _, nilp_val h1, nilp_val h2, run_eql_nil w _ hu⟩⟩
  ·rename_i e sz by' z cmp pl hx hy ht
   obtain rfl := Option.some.inj h
   exact ⟨_, hp, does_cmpP (b := true) hti hop ht rfl hx hy (.inr rfl) fun g p q w h1 h2 hu => ⟨_, _, nilp_val h1, nilp_val h2, run_eql_nil w _ hu⟩⟩
  ·cases h
 ·rename_i args ats hop
  split at h
  ·rename_i x ha
   have hargs : args = #[x] := by rw [← Array.toArray_toList (xs := args), ha]
   subst hargs
   split at h
   ·rename_i sz es n hx
    obtain rfl := Option.some.inj h
    split at hp
    ·rename_i t b hm
     obtain ⟨hb, hK⟩ := bif_ok hp
     simp only [Bool.and_eq_true] at hb
     obtain ⟨rfl, hb⟩ := hb
     obtain rfl := Nat.eq_of_beq_eq_true hb
     exact ⟨_, hK, does_sliceData hop hx hm (by have := hlt _ _ hx; simpa [AV.lt, AV.lt2, AV.lt1, AV.lt0] using this)⟩
    ·exact hp.elim
   ·rename_i sz hx
    obtain rfl := Option.some.inj h
    exact ⟨_, hp, does_sliceData_nil hop hx⟩
   ·cases h
  ·cases h
 ·rename_i fn first caps hop
  split at h
  ·rename_i f c hf hc
   cases hb : (f.all AV.flat && c.all AV.flat) with
   | false => rw [hb] at h; cases h
   | true =>
    rw [hb] at h
    obtain rfl := Option.some.inj h
    simp only [Bool.and_eq_true] at hb
    exact ⟨_, hp, does_makeFunc hop hf hc hb.1 hb.2 hlt⟩
  ·cases h
 ·rename_i args ats hop
  split at h
  ·rename_i x ha
   have hargs : args = #[x] := by rw [← Array.toArray_toList (xs := args), ha]
   subst hargs
   split at h
   ·rename_i zz n off len cap e sz by' z cmp pl hx ht
    obtain rfl := Option.some.inj h
    obtain ⟨t, h0, ht⟩ := Option.bind_eq_some_iff.1 ht
    exact ⟨_, hp, does_len_ms hti hop ht rfl h0 hx⟩
   ·rename_i sz n i len e _ _ _ _ _ hx ht
    obtain rfl := Option.some.inj h
    obtain ⟨t, h0, ht⟩ := Option.bind_eq_some_iff.1 ht
    exact ⟨_, hp, does_len_vx hti hop ht rfl h0 hx⟩
   ·cases h
  ·cases h
 ·cases h
theorem map_of {t : Nat} {ty : Ty} {u : TypeDesc} {i : TypeInfo} {k e : Nat} (ht : TyOK P t ty u i) (hk : ty.kd = .map k e) : u = .map k e := by
 have hkd := ht.kd
 rw [hk] at hkd
 cases u <;> simp only [kdOf] at hkd <;> first | (cases hkd; done) | skip
 cases hkd; rfl
theorem check_int {k : Nat} {kt : IntKind} {b : Bool} {q : IntKind} {n : Int} {w : World} (d : Nat) (hk : P.underlying k = some (.int kt)) : (Instr.checkKey b (d + 1) k (.int q n)).run P w = .ok () w := by
 simp [Instr.checkKey, run_underlying hk]
theorem evMap_sound (hti : TiOK P ti) {p : Prop} (h : evMap P ti r o K = some p) (hp : p) : ∃ v, K v ∧ Does P mem nx r o v := by
 unfold evMap at h
 split at h
 ·rename_i t x i hop
  split at h
  ·rename_i kz n k e sz by' z cmp pl hx hi ht
   obtain rfl := Option.some.inj h
   obtain ⟨kk, zz, ⟨kt, hkt⟩, hz, hK⟩ := hp.run
   obtain ⟨u, inf, ht⟩ := tyOf_ok (hti _ _ ht)
   obtain rfl := map_of ht rfl
   refine ⟨_, hK, .of_run rfl fun κ g a w hinv hoo => ⟨.int kk zz, ?_, .d _ _ (.it _ _)⟩⟩
   have h1 := hoo x (by simp [hop, Op.operands]) _ hx
   have h2 := hoo i (by simp [hop, Op.operands]) _ hi
   generalize ha : a.eval x = q at h1
   generalize hb : a.eval i = q2 at h2
   cases h1 with | d _ _ h1 => ?_
   cases h1 with | ot _ _ => ?_
   cases h2 with | d _ _ h2 => ?_
   cases h2 with | it _ _ => ?_
   simp [execOp, hop, ha, hb, Instr.lookup, run_underlying ht.und, run_underlying hkt, check_int 9999 hkt, Instr.findKey, Instr.findNow, hz, Result.andThen]
  ·cases h
 ·cases h
theorem flat_DR {F F' : Nat → Nat → Option Value} {x : D} {u : Value} (hx : x.flat = true) (h : DR F x u) : DR F' x u := by
 cases h with
 | bl b => exact .bl b
 | it k n => exact .it k n
 | st l => exact .st l
 | ot _ h => exact .ot _ h
 | an _ h => exact .an _ h
 | fs0 => cases hx
 | fs => cases hx
 | fp => cases hx
theorem flat_AVR {g g' : Gh} {v : AV} {u : Value} (hv : v.flatP = true) (h : AVR g v u) : AVR g' v u := by
 have one : ∀ {v : AV} {u : Value}, (match v with | .d x => x.flat | .dg _ cs => cs.all D.flat | _ => false) = true → AVR g v u → AVR g' v u := fun {v u} hv h => by
  cases h with
  | d x v h => exact .d _ _ (flat_DR hv h)
  | dg k cs vs h1 h2 h =>
   have hv : cs.all D.flat = true := hv
   rw [List.all_eq_true] at hv
   exact .dg _ _ _ h1 h2 fun j hj => flat_DR (hv _ (List.getElem_mem hj)) (h j hj)
  | _ => cases hv
 cases v with
 | tup vs =>
  cases h with
  | tup cs us h1 h =>
   have hv : (vs.all fun | .d x => x.flat | .dg _ cs => cs.all D.flat | _ => false) = true := hv
   rw [List.all_eq_true] at hv
   refine .tup _ _ h1 fun j hj => one ?_ (h j hj)
   have := hv _ (List.getElem_mem hj)
   generalize vs[j] = q at this ⊢
   cases q <;> first | exact this | cases this
 | d x => exact one hv h
 | dg k cs => exact one hv h
 | _ => cases hv
theorem argsA_len : ∀ {l : List Operand} {vs : List AV}, argsA r l = some vs → vs.length = l.length ∧ ∀ j (h : j < vs.length) (h' : j < l.length), r l[j] = some vs[j]
 | [], vs, h => by
  obtain rfl := Option.some.inj h
  exact ⟨rfl, fun j h => by cases h⟩
 | x :: t, vs, h => by
  simp only [argsA] at h
  split at h
  ·rename_i v l hv hl
   obtain rfl := Option.some.inj h
   obtain ⟨h1, h2⟩ := argsA_len hl
   refine ⟨by simp [h1], fun j hj hj' => ?_⟩
   cases j with
   | zero => exact hv
   | succ j => exact h2 j (by simpa using hj) (by simpa using hj')
  ·cases h
theorem argR_ok {κ : Ctx} {g : Gh} {w : World} (hi : Inv κ g mem w) {u v : AV} {x : Value} (h : argR mem u v) (hx : AVR g u x) : AVR { g with F := fun b o => w.cell? ⟨b, o, none⟩ } v x := by
 have hF : ∀ b o v, g.F b o = some v → w.cell? ⟨b, o, none⟩ = some v := hi.frz
 unfold argR at h
 split at h
 ·rename_i n off k ds
  obtain ⟨size, c, hm, hle, hlen, hds⟩ := h
  obtain ⟨arr, T, e1, e2, e3, e4, e5, e6⟩ := hi.obs n _ hm
  cases hx
  refine .d _ _ (.fp _ _ _ _ (fun j => arr.getD (off + j) undef) hlen (fun j hj => ?_) fun j hj => ?_)
  ·have : off + j < arr.size := by omega
   simp [World.cell?, e1, Array.getD, this]
  ·obtain ⟨f1, f2⟩ := frzL_ok (g := g) hds
   refine (f2 (fun j => arr.getD (off + j) undef) (fun i hi' => ?_) j hj).mono hF
   have hi2 : i < k ∧ off + i < c.length := by
    rw [List.length_take, List.length_drop] at hi'; omega
   have e : ((c.drop off).take k)[i] = c[off + i] := by rw [List.getElem_take, List.getElem_drop]
   rw [e]; exact e5 _ hi2.2
 ·have h2 := pure1_ok h hx
  rcases pure1_isP h with ⟨y, rfl⟩ | ⟨k, cs, rfl⟩
  ·exact isP_mono hF rfl h2
  ·exact isP_mono hF rfl h2
theorem argsR_ok : ∀ {l l' : List AV}, argsR mem l l' → l'.length = l.length ∧ ∀ j (h : j < l.length) (h' : j < l'.length), argR mem l[j] l'[j]
 | [], [], _ => ⟨rfl, fun j h => by cases h⟩
 | u :: l, v :: l', h => by
  obtain ⟨h1, h2⟩ := argsR_ok h.2
  refine ⟨by simp [h1], fun j hj hj' => ?_⟩
  cases j with
  | zero => exact h.1
  | succ j => exact h2 j (by simpa using hj) (by simpa using hj')
 | [], _ :: _, h => h.elim
 | _ :: _, [], h => h.elim
theorem callR_run {κ : Ctx} {g : Gh} {w : World} {f : Nat} {l l' : List AV} {rv : AV} {vs : Array Value} (hi : Inv κ g mem w) (hmem : ∀ n ob, look n mem = some ob → n < nx ∧ ob.lt nx = true) (hl : argsR mem l l') (hf : FnC P f l' rv) (hfl : rv.flatP = true) (hsz : vs.size = l.length) (hav : ∀ j (h : j < l.length), AVR g l[j] (vs.getD j undef)) :
  Step P f vs w fun e w' => ∃ v, e = .returned v ∧ AVR g rv v ∧ Inv κ g mem w' := by
 obtain ⟨q1, q2⟩ := argsR_ok hl
 have fin : ∀ e w', (∃ v g1, e = Ending.returned v ∧ AVR g1 rv v ∧ (∀ b o v, w.cell? ⟨b, o, none⟩ = some v → g1.F b o = some v) ∧
   (∀ b o v, g1.F b o = some v → w.cell? ⟨b, o, none⟩ = some v ∨ w.heap.size ≤ b) ∧ (∀ b o v, g1.F b o = some v → w'.cell? ⟨b, o, none⟩ = some v) ∧
   w.heap.size ≤ w'.heap.size ∧ (∀ b, b < w.heap.size → w'.heap[b]? = w.heap[b]?) ∧ w'.os = w.os ∧ w'.tape = w.tape ∧ w'.output = w.output) → ∃ v, e = .returned v ∧ AVR g rv v ∧ Inv κ g mem w' := by
  rintro e w' ⟨v, g1, rfl, k1, k2, k3, k4, k5, k6, k7, k8, k9⟩
  exact ⟨v, rfl, flat_AVR hfl k1, hi.grow hmem (.refl _ _) k5 k6 (fun b o v h => .inl h) (fun b o v h => k4 _ _ _ (k2 _ _ _ (hi.frz b o v h))) k7 k8 k9⟩
 rcases hf.run { g with F := fun b o => w.cell? ⟨b, o, none⟩ } w vs (fun _ _ _ h => h) (κ.gl.mono fun b o v h => hi.frz _ _ _ (hi.f0 _ _ _ h)) (by omega) (fun j hj => argR_ok hi (q2 j (by omega) hj) (hav j (by omega))) with ⟨hrun, hc⟩ | ⟨v', w', hrun, hc⟩
 ·exact .inl ⟨hrun, hc.mono fun e w' he => fin e w' he⟩
 ·exact .inr ⟨v', w', hrun, fin _ _ hc⟩
theorem evR_sound (hmem : ∀ n ob, look n mem = some ob → n < nx ∧ ob.lt nx = true) {p : Prop} (h : evR P mem r o K = some p) (hp : p) : ∃ v, K v ∧ Does P mem nx r o v := by
 unfold evR at h
 split at h
 ·rename_i f args ats hop
  split at h
  ·cases h
  ·split at h
   ·rename_i l hl
    obtain rfl := Option.some.inj h
    obtain ⟨l', rv, hR, hf, hfl, hK⟩ := hp.run
    refine ⟨rv, hK, isP_lt hf.isP nx, fun κ g a w hi ho next Q hn => ?_⟩
    obtain ⟨a1, a2⟩ := argsA_len hl
    have hexec : (execOp a.eval o).run P w = (callFunc f (args.map a.eval)).run P w := by
     simp only [execOp, hop, resolve, Act.eval, Deferred.ofValue, pure_bind, invoke]
     simp
    rcases callR_run (vs := args.map a.eval) hi hmem hR hf hfl (by simp [a1]) (fun j hj => by
      have h' : j < args.size := by have := a1; simp at this; omega
      have hx := ho args[j] (by simp only [hop, Op.operands, Call.operands]; simp) l[j] (a2 j hj (by simpa using h'))
      simpa [Array.getD, h'] using hx) with ⟨hrun, hc⟩ | ⟨v', w', hrun, hc⟩
    ·refine wp_enter (hexec.trans hrun) (hc.mono fun e w' ⟨v, h1, h2, h3⟩ => ⟨v, h1, hn g v w' (.refl _ _) h3 h2⟩)
    ·obtain ⟨v, h1, h2, h3⟩ := hc
     obtain rfl : v' = v := by injection h1
     exact wp_value (hexec.trans hrun) (hn g v' w' (.refl _ _) h3 h2)
   ·cases h
 ·cases h
theorem flat_atF : ∀ {sz : Nat} {es : List (List D)} (hs : ∀ x ∈ es, x.length = sz) {i j : Nat} (hi : i < es.length) (hj : j < es[i].length), es.flatten[i * sz + j]? = some es[i][j]
 | sz, x :: es, hs, 0, j, _, hj => by
  have hj' : j < x.length := hj
  rw [List.flatten_cons, Nat.zero_mul, Nat.zero_add, List.getElem?_append_left hj']
  exact List.getElem?_eq_getElem hj'
 | sz, x :: es, hs, i + 1, j, hi, hj => by
  have hx := hs x List.mem_cons_self
  rw [List.flatten_cons, List.getElem?_append_right (by rw [hx, Nat.add_mul]; omega), hx, show (i + 1) * sz + j - sz = i * sz + j by rw [Nat.add_mul]; omega]
  exact flat_atF (fun y hy => hs y (List.mem_cons_of_mem _ hy)) (by simpa using hi) hj
theorem fp_row {F : Nat → Nat → Option Value} {k sz len : Nat} {cs : List D} {es : List (List D)} {v : Value} (h : DR F (.fp k cs) v) (h1 : es.length = len) (h2 : ∀ x ∈ es, x.length = sz) (h3 : es.flatten = cs.take (len * sz)) (hk : len * sz ≤ k) :
  ∃ b off, v = .pointer (some ⟨b, off, none⟩) ∧ DR F (.fs sz es) (.slice (some ⟨b, off, none⟩) len len) := by
 cases h with
 | fp _ _ b off vs hl hF hr =>
  refine ⟨b, off, rfl, .fs sz es b off len len (fun i j => vs (i * sz + j)) h1 (Nat.le_refl _) (fun i hi => h2 _ (List.getElem_mem hi)) (fun i j hi hj => ?_) fun i hi j hj => ?_⟩
  ·have : i * sz + sz ≤ len * sz := by rw [← Nat.succ_mul]; exact Nat.mul_le_mul_right sz hi
   rw [← hF (i * sz + j) (by omega), Nat.add_assoc]
  ·have hj' : j < sz := by rw [h2 _ (List.getElem_mem hi)] at hj; exact hj
   have : i * sz + sz ≤ len * sz := by rw [← Nat.succ_mul]; exact Nat.mul_le_mul_right sz (by omega)
   have hlt : i * sz + j < cs.length := by omega
   have e := flat_atF h2 hi hj
   rw [h3, List.getElem?_take, if_pos (by omega), List.getElem?_eq_getElem hlt] at e
   rw [← Option.some.inj e]; exact hr _ hlt
theorem sliF_ok {sz : Nat} {es : List (List D)} {lo hi : Option Int} {K : AV → Prop} (h : sliF sz es lo hi K) : (∀ x, lo = some x → 0 ≤ x) ∧ (∀ x, hi = some x → 0 ≤ x) ∧ (bds es.length es.length lo hi none).1 ≤ (bds es.length es.length lo hi none).2.1 ∧ (bds es.length es.length lo hi none).2.1 ≤ es.length ∧
  K (.d (.fs sz ((es.take (bds es.length es.length lo hi none).2.1).drop (bds es.length es.length lo hi none).1))) := by
 cases lo with
 | none =>
  cases hi with
  | none => exact ⟨(fun _ h => by cases h), (fun _ h => by cases h), Nat.zero_le _, Nat.le_refl _, by simpa [bds, sliF] using h⟩
  | some j =>
   obtain ⟨h1, h⟩ := h
   exact ⟨(fun _ h => by cases h), (fun x h => by cases h; exact h1.1), Nat.zero_le _, (by simp [bds]; omega), by simpa [bds] using h.out⟩
 | some i =>
  cases hi with
  | none =>
   obtain ⟨h1, h⟩ := h
   exact ⟨(fun x h => by cases h; exact h1.1), (fun _ h => by cases h), (by simp [bds]; omega), (by simp [bds]), by simpa [bds] using h.out⟩
  | some j =>
   obtain ⟨h1, h⟩ := h
   exact ⟨(fun x h => by cases h; exact h1.1), (fun x h => by cases h; omega), (by simp [bds]; omega), (by simp [bds]; omega), by simpa [bds] using h.out⟩
theorem does_slice_fp {t e len k : Nat} {x : Operand} {lo hi : Option Operand} {i j : Option Int} {ty ety : Ty} {cs : List D} (hti : TiOK P ti) (hop : o.op = .slice t x lo hi none) (ht : tyOf P t = some ty) (hk : ty.kd = .arr len e) (he : ti e = some ety)
  (hx : r x = some (.d (.fp k cs))) (h1 : oInt r lo = some i) (h2 : oInt r hi = some j) (hle : len * ety.size ≤ k) (hs : SlF ety.size len cs i j K) : ∃ v, K v ∧ Does P mem nx r o v := by
 obtain ⟨u, inf, ht⟩ := tyOf_ok ht
 obtain ⟨ue, ie, het⟩ := tyOf_ok (hti _ _ he)
 obtain rfl := arr_of ht hk
 obtain ⟨es, ⟨q1, q2, q3⟩, hs⟩ := hs.run
 obtain ⟨c1, c2, c3, c4, hK⟩ := sliF_ok hs
 subst q1
 refine ⟨_, hK, .of_run rfl fun κ g a w hi' ho => ?_⟩
 have e1 := oInt_ok (o := o) (g := g) (a := a) h1 (fun y hy => by subst hy; simp [hop, Op.operands]) ho
 have e2 := oInt_ok (o := o) (g := g) (a := a) h2 (fun y hy => by subst hy; simp [hop, Op.operands]) ho
 have hxv := ho x (by simp [hop, Op.operands]) _ hx
 generalize ha : a.eval x = q at hxv
 cases hxv with | d _ _ hxv => ?_
 obtain ⟨b, off, rfl, hd⟩ := fp_row hxv rfl q2 q3 hle
 have hrun := run_bounds (P := P) false es.length es.length (lo.map a.eval) (hi.map a.eval) none i j none e1 e2 rfl (by simp) (Nat.le_refl _) c1 c2 (by simp) c3 c4 (Nat.le_refl _) w
 have hd := hd.sub (m := es.length) c3 c4 c4
 refine ⟨_, ?_, .d _ _ hd⟩
 have e3 : (bds es.length es.length i j none).2.2 = es.length := rfl
 simp only [execOp, hop, ha, Instr.sliceAt, Instr.sureAddr, Sem.run_bind, Sem.run_pure, Result.andThen_ok, run_underlying ht.und, Option.map_none, hrun, run_sizeOf' het.info, het.size, e3]
 congr 2
 split <;> rfl
theorem evSl_sound (hti : TiOK P ti) {p : Prop} (h : evSl ti r o K = some p) (hp : p) : ∃ v, K v ∧ Does P mem nx r o v := by
 unfold evSl at h
 split at h
 ·rename_i t x lo hi hop
  split at h
  ·rename_i k cs len e _ _ _ _ _ i j hx ht h1 h2
   obtain rfl := Option.some.inj h
   split at hp
   ·rename_i ety he
    obtain ⟨hb, hK⟩ := bif_ok hp
    exact does_slice_fp hti hop (hti _ _ ht) rfl he hx h1 h2 (Nat.le_of_ble_eq_true hb) hK
   ·exact hp.elim
  ·cases h
 ·cases h
theorem evV_sound (hti : TiOK P ti) (hlt : ∀ x v, r x = some v → v.lt nx = true) (hmem : ∀ n ob, look n mem = some ob → n < nx ∧ ob.lt nx = true) (h : evV P ti mem r o K) : ∃ v, K v ∧ Does P mem nx r o v := by
 unfold evV at h
 split at h
 ·rename_i p hp; exact evValM_sound hti hlt hp h
 ·split at h
  ·rename_i p hp; exact evMap_sound hti hp h
  ·split at h
   ·rename_i p hp; exact evR_sound hmem hp h
   ·split at h
    ·rename_i p hp; exact evSl_sound hti hp h
    ·exact evVal_sound hti hlt hmem h
end
end Go.Sy
