/- A computing verification layer for data, proved sound over the library: what a body comes to, by its literal code. Conditions: none. -/
import Derived.Test.YtajeadkdacgldaaGreatDoorSC
set_option linter.all false
/- A call whose first argument is the nil slice, entered. Conditions: none. -/
namespace Go.Sy
set_option linter.unusedVariables false
set_option linter.unusedSimpArgs false
section
variable {P : Program} {ti : Nat → Option Ty} {N : Nat}
end
end Go.Sy

/- Names turned. Conditions: none. -/
namespace Go.Sy
set_option linter.unusedVariables false
set_option linter.unusedSimpArgs false
def AV.ren0 (φ : Nat → Nat) : AV → AV
  | .ptr n off => .ptr (φ n) off
  | .ms sz n off len cap => .ms sz (φ n) off len cap
  | .ts sz es n => .ts sz es (φ n)
  | .yld n => .yld (φ n)
  | .sd es n => .sd es (φ n)
  | .vx sz n i len => .vx sz (φ n) i len
  | .vq sz n k off => .vq sz (φ n) k off
  | v => v
def AV.ren1 (φ : Nat → Nat) : AV → AV
  | .fn f a b => .fn f (a.map (AV.ren0 φ)) (b.map (AV.ren0 φ))
  | v => v.ren0 φ
def AV.ren2 (φ : Nat → Nat) : AV → AV
  | .ag k cs => .ag k (cs.map (AV.ren1 φ))
  | v => v.ren1 φ
def AV.ren (φ : Nat → Nat) : AV → AV
  | .tup vs => .tup (vs.map (AV.ren2 φ))
  | v => v.ren2 φ
def Ob.ren (φ : Nat → Nat) : Ob → Ob
  | .cells size c => .cells size (c.map (AV.ren1 φ))
  | .tag m t => .tag (φ m) t
  | o => o
/-- An object that a contract may speak of. -/
def Ob.pl : Ob → Bool
  | .frame .. | .loop .. => false
  | _ => true
def Gh.pull (g : Gh) (φ : Nat → Nat) : Gh := ⟨g.F, fun k => g.blk (φ k), fun k => g.hi (φ k), fun k => g.cp (φ k), fun k => g.has (φ k)⟩

theorem AVR.pull0 {g : Gh} {φ : Nat → Nat} {x : AV} {v : Value} : AVR g (x.ren0 φ) v → (∀ f a b, x ≠ .fn f a b) → (∀ k cs, x ≠ .ag k cs) → (∀ vs, x ≠ .tup vs) → AVR (g.pull φ) x v := by
  intro h h1 h2 h3
  cases x with
  | d y => cases h with | d _ _ h => exact .d _ _ h
  | dg k cs => cases h with | dg _ _ vs a b c => exact .dg k cs vs a b c
  | ag k cs => exact absurd rfl (h2 _ _)
  | tup vs => exact absurd rfl (h3 _)
  | fn f a b => exact absurd rfl (h1 _ _ _)
  | ptr n off => cases h; exact .ptr (g := g.pull φ) n off
  | ms sz n off len cap => cases h with | ms _ _ _ _ _ ad had hc => exact .ms (g := g.pull φ) sz n off len cap ad had hc
  | ts sz es n =>
    cases h with
    | ts0 _ _ _ a len hl hd hh hz => exact .ts0 (g := g.pull φ) sz es n a len hl hd hh hz
    | ts _ _ _ off len cap h0 hn hd hl hc h1 h2 hpos => exact .ts (g := g.pull φ) sz es n off len cap h0 hn hd hl hc h1 h2 hpos
  | tg sz es => cases h with | tg _ _ a len hl hd => exact .tg sz es a len hl hd
  | nl sz => cases h; exact .nl sz
  | sd es n => cases h with | sd _ _ p h => exact .sd (g := g.pull φ) es n p h
  | yld n => cases h; exact .yld (g := g.pull φ) n
  | vx sz n i len => cases h with | vx _ _ _ _ ad c hc had => exact .vx (g := g.pull φ) sz n i len ad c hc had
  | vq sz n k off => cases h with | vq _ _ _ _ h => exact .vq (g := g.pull φ) sz n k off h
  | jk => cases h with | jk _ h => exact .jk _ h
  | junk => exact .junk _
theorem AVR.push0 {g : Gh} {φ : Nat → Nat} {x : AV} {v : Value} (h : AVR (g.pull φ) x v) (h1 : ∀ f a b, x ≠ .fn f a b) (h2 : ∀ k cs, x ≠ .ag k cs) (h3 : ∀ vs, x ≠ .tup vs) : AVR g (x.ren0 φ) v := by
  cases h with
  | d _ _ h => exact .d _ _ h
  | dg k cs vs a b c => exact .dg k cs vs a b c
  | ag k cs => exact absurd rfl (h2 _ _)
  | tup vs => exact absurd rfl (h3 _)
  | fn f a b => exact absurd rfl (h1 _ _ _)
  | ptr n off => exact .ptr (g := g) (φ n) off
  | ms sz n off len cap ad had hc => exact .ms (g := g) sz (φ n) off len cap ad had hc
  | ts0 sz es n a len hl hd hh hz => exact .ts0 (g := g) sz es (φ n) a len hl hd hh hz
  | ts sz es n off len cap h0 hn hd hl hc q1 q2 hpos => exact .ts (g := g) sz es (φ n) off len cap h0 hn hd hl hc q1 q2 hpos
  | tg sz es a len hl hd => exact .tg sz es a len hl hd
  | nl sz => exact .nl sz
  | sd es n p h => exact .sd (g := g) es (φ n) p h
  | yld n => exact .yld (g := g) (φ n)
  | vx sz n i len ad c hc had => exact .vx (g := g) sz (φ n) i len ad c hc had
  | vq sz n k off h => exact .vq (g := g) sz (φ n) k off h
  | jk v h => exact .jk v h
  | junk v => exact .junk v
/-- A scalar that is no function. -/
def AV.b0 : AV → Bool
  | .fn .. | .ag .. | .tup .. => false
  | _ => true
theorem b0_ne {x : AV} (h : x.b0 = true) : (∀ f a b, x ≠ .fn f a b) ∧ (∀ k cs, x ≠ .ag k cs) ∧ (∀ vs, x ≠ .tup vs) := by
  refine ⟨?_, ?_, ?_⟩ <;> (intros; intro e; subst e; cases h)
theorem b0_lt {x : AV} {m : Nat} (h : x.lt0 m = true) : x.b0 = true := by cases x <;> first | rfl | cases h
theorem AVR.pull1 {g : Gh} {φ : Nat → Nat} {x : AV} {v : Value} {m : Nat} (hl : x.lt1 m = true) (h : AVR g (x.ren1 φ) v) : AVR (g.pull φ) x v := by
  by_cases hx : ∃ f a b, x = .fn f a b
  · obtain ⟨f, a, b, rfl⟩ := hx
    simp only [AV.lt1, List.all_eq_true, Bool.and_eq_true] at hl
    cases h with
    | fn _ _ _ vs ws h1 h2 h3 h4 =>
      simp only [List.length_map] at h1 h2
      refine .fn f a b vs ws h1 h2 (fun j hj => ?_) fun j hj => ?_
      · have := h3 j (by rw [List.length_map]; exact hj)
        rw [List.getElem_map] at this
        obtain ⟨b1, b2, b3⟩ := b0_ne (b0_lt (hl.1 _ (List.getElem_mem hj)))
        exact this.pull0 b1 b2 b3
      · have := h4 j (by rw [List.length_map]; exact hj)
        rw [List.getElem_map] at this
        obtain ⟨b1, b2, b3⟩ := b0_ne (b0_lt (hl.2 _ (List.getElem_mem hj)))
        exact this.pull0 b1 b2 b3
  · have e : x.ren1 φ = x.ren0 φ := by cases x <;> first | rfl | exact absurd ⟨_, _, _, rfl⟩ hx
    have hl0 : x.lt0 m = true := by cases x <;> first | exact hl | exact absurd ⟨_, _, _, rfl⟩ hx
    rw [e] at h
    obtain ⟨b1, b2, b3⟩ := b0_ne (b0_lt hl0)
    exact h.pull0 b1 b2 b3
theorem AVR.push1 {g : Gh} {φ : Nat → Nat} {x : AV} {v : Value} {m : Nat} (hl : x.lt1 m = true) (h : AVR (g.pull φ) x v) : AVR g (x.ren1 φ) v := by
  by_cases hx : ∃ f a b, x = .fn f a b
  · obtain ⟨f, a, b, rfl⟩ := hx
    simp only [AV.lt1, List.all_eq_true, Bool.and_eq_true] at hl
    cases h with
    | fn _ _ _ vs ws h1 h2 h3 h4 =>
      refine .fn f _ _ vs ws (by simpa using h1) (by simpa using h2) (fun j hj => ?_) fun j hj => ?_
      · simp only [List.length_map] at hj
        rw [List.getElem_map]
        obtain ⟨b1, b2, b3⟩ := b0_ne (b0_lt (hl.1 _ (List.getElem_mem hj)))
        exact (h3 j hj).push0 b1 b2 b3
      · simp only [List.length_map] at hj
        rw [List.getElem_map]
        obtain ⟨b1, b2, b3⟩ := b0_ne (b0_lt (hl.2 _ (List.getElem_mem hj)))
        exact (h4 j hj).push0 b1 b2 b3
  · have e : x.ren1 φ = x.ren0 φ := by cases x <;> first | rfl | exact absurd ⟨_, _, _, rfl⟩ hx
    have hl0 : x.lt0 m = true := by cases x <;> first | exact hl | exact absurd ⟨_, _, _, rfl⟩ hx
    rw [e]
    obtain ⟨b1, b2, b3⟩ := b0_ne (b0_lt hl0)
    exact h.push0 b1 b2 b3
theorem ren1_sc (φ : Nat → Nat) (x : AV) : (x.ren1 φ).sc = x.sc := by cases x <;> rfl
theorem AVR.push2 {g : Gh} {φ : Nat → Nat} {x : AV} {v : Value} {m : Nat} (hl : x.lt2 m = true) (h : AVR (g.pull φ) x v) : AVR g (x.ren2 φ) v := by
  by_cases hx : ∃ k cs, x = .ag k cs
  · obtain ⟨k, cs, rfl⟩ := hx
    simp only [AV.lt2, List.all_eq_true] at hl
    cases h with
    | ag _ _ vs h1 h2 h3 h =>
      refine .ag k _ vs h1 (by simpa using h2) (fun j hj => ?_) fun j hj => ?_
      · simp only [List.length_map] at hj
        rw [List.getElem_map, ren1_sc]; exact h3 j hj
      · simp only [List.length_map] at hj
        rw [List.getElem_map]
        exact (h j hj).push1 (hl _ (List.getElem_mem hj))
  · have e : x.ren2 φ = x.ren1 φ := by cases x <;> first | rfl | exact absurd ⟨_, _, rfl⟩ hx
    have hl1 : x.lt1 m = true := by cases x <;> first | exact hl | exact absurd ⟨_, _, rfl⟩ hx
    rw [e]; exact h.push1 hl1
theorem AVR.pull2 {g : Gh} {φ : Nat → Nat} {x : AV} {v : Value} {m : Nat} (hl : x.lt2 m = true) (h : AVR g (x.ren2 φ) v) : AVR (g.pull φ) x v := by
  by_cases hx : ∃ k cs, x = .ag k cs
  · obtain ⟨k, cs, rfl⟩ := hx
    simp only [AV.lt2, List.all_eq_true] at hl
    cases h with
    | ag _ _ vs h1 h2 h3 h =>
      simp only [List.length_map] at h2
      refine .ag k cs vs h1 h2 (fun j hj => ?_) fun j hj => ?_
      · have := h3 j (by rw [List.length_map]; exact hj)
        rwa [List.getElem_map, ren1_sc] at this
      · have := h j (by rw [List.length_map]; exact hj)
        rw [List.getElem_map] at this
        exact this.pull1 (hl _ (List.getElem_mem hj))
  · have e : x.ren2 φ = x.ren1 φ := by cases x <;> first | rfl | exact absurd ⟨_, _, rfl⟩ hx
    have hl1 : x.lt1 m = true := by cases x <;> first | exact hl | exact absurd ⟨_, _, rfl⟩ hx
    rw [e] at h; exact h.pull1 hl1
theorem AVR.push {g : Gh} {φ : Nat → Nat} {x : AV} {v : Value} {m : Nat} (hl : x.lt m = true) (h : AVR (g.pull φ) x v) : AVR g (x.ren φ) v := by
  by_cases hx : ∃ vs, x = .tup vs
  · obtain ⟨cs, rfl⟩ := hx
    simp only [AV.lt, List.all_eq_true] at hl
    cases h with
    | tup _ vs h1 h =>
      refine .tup _ vs (by simpa using h1) fun j hj => ?_
      simp only [List.length_map] at hj
      rw [List.getElem_map]
      exact (h j hj).push2 (hl _ (List.getElem_mem hj))
  · have e : x.ren φ = x.ren2 φ := by cases x <;> first | rfl | exact absurd ⟨_, rfl⟩ hx
    have hl1 : x.lt2 m = true := by cases x <;> first | exact hl | exact absurd ⟨_, rfl⟩ hx
    rw [e]; exact h.push2 hl1
theorem AVR.pull {g : Gh} {φ : Nat → Nat} {x : AV} {v : Value} {m : Nat} (hl : x.lt m = true) (h : AVR g (x.ren φ) v) : AVR (g.pull φ) x v := by
  by_cases hx : ∃ vs, x = .tup vs
  · obtain ⟨cs, rfl⟩ := hx
    simp only [AV.lt, List.all_eq_true] at hl
    cases h with
    | tup _ vs h1 h =>
      simp only [List.length_map] at h1
      refine .tup _ vs h1 fun j hj => ?_
      have := h j (by rw [List.length_map]; exact hj)
      rw [List.getElem_map] at this
      exact this.pull2 (hl _ (List.getElem_mem hj))
  · have e : x.ren φ = x.ren2 φ := by cases x <;> first | rfl | exact absurd ⟨_, rfl⟩ hx
    have hl1 : x.lt2 m = true := by cases x <;> first | exact hl | exact absurd ⟨_, rfl⟩ hx
    rw [e] at h; exact h.pull2 hl1
theorem ObOK.pull {κ κ' : Ctx} {g : Gh} {w : World} {φ : Nat → Nat} {n m : Nat} {ob : Ob} (hp : ob.pl = true) (hl : ob.lt m = true) (h : ObOK κ g w (φ n) (ob.ren φ)) : ObOK κ' (g.pull φ) w n ob := by
  cases ob with
  | cells size c =>
    simp only [Ob.lt, List.all_eq_true] at hl
    obtain ⟨arr, T, e1, e2, e3, e4, e5, e6⟩ := h
    rw [List.length_map] at e3
    refine ⟨arr, T, e1, e2, e3, fun j hj => ?_, fun j hj => ?_, e6⟩
    · have := e4 j (by rw [List.length_map]; exact hj)
      rwa [List.getElem_map, ren1_sc] at this
    · have := e5 j (by rw [List.length_map]; exact hj)
      rw [List.getElem_map] at this
      exact this.pull1 (hl _ (List.getElem_mem hj))
  | tail t b => exact h
  | vec t sz es f => exact h
  | tag k t => exact h
  | frame => cases hp
  | loop => cases hp
theorem ObOK.push {κ κ' : Ctx} {g : Gh} {w : World} {φ : Nat → Nat} {n m : Nat} {ob : Ob} (hp : ob.pl = true) (hl : ob.lt m = true) (h : ObOK κ (g.pull φ) w n ob) : ObOK κ' g w (φ n) (ob.ren φ) := by
  cases ob with
  | cells size c =>
    simp only [Ob.lt, List.all_eq_true] at hl
    obtain ⟨arr, T, e1, e2, e3, e4, e5, e6⟩ := h
    refine ⟨arr, T, e1, e2, by rw [List.length_map]; exact e3, fun j hj => ?_, fun j hj => ?_, e6⟩
    · simp only [List.length_map] at hj
      rw [List.getElem_map, ren1_sc]; exact e4 j hj
    · simp only [List.length_map] at hj
      rw [List.getElem_map]
      exact (e5 j hj).push1 (hl _ (List.getElem_mem hj))
  | tail t b => exact h
  | vec t sz es f => exact h
  | tag k t => exact h
  | frame => cases hp
  | loop => cases hp
end Go.Sy

/- Contracts of functions that write into variables of the caller's, and hand on new ones: what a call does. Conditions: none. -/
namespace Go.Sy
set_option linter.unusedVariables false
set_option linter.unusedSimpArgs false
structure ExtL (us : List Nat) (M : Nat) (g g' : Gh) : Prop where
  F : ∀ b o v, g.F b o = some v → g'.F b o = some v
  blk : ∀ n, n < M → n ∉ us → g'.blk n = g.blk n
  hi : ∀ n, n < M → n ∉ us → g'.hi n = g.hi n
  cp : ∀ n, n < M → n ∉ us → g'.cp n = g.cp n
  has : ∀ n, n < M → n ∉ us → g'.has n = g.has n
def AV.dnL (us : List Nat) (v : AV) : AV := us.foldl (fun v n => v.down n) v
def AV.dnL1 (us : List Nat) (v : AV) : AV := us.foldl (fun v n => v.down1 n) v
def dnsL : List Nat → List (Nat × AV) → List (Nat × AV)
  | _, [] => []
  | us, (k, v) :: t => (k, v.dnL us) :: dnsL us t
/-- The ghost state in between. -/
def Gh.mid (g g' : Gh) (n : Nat) : Gh := ⟨g'.F, fun k => if k = n then g'.blk k else g.blk k, fun k => if k = n then g'.hi k else g.hi k, fun k => if k = n then g'.cp k else g.cp k, fun k => if k = n then g'.has k else g.has k⟩
theorem ExtL.mid {n : Nat} {us : List Nat} {M : Nat} {g g' : Gh} (h : ExtL (n :: us) M g g') : ExtX n M g (g.mid g' n) ∧ ExtL us M (g.mid g' n) g' := by
  refine ⟨⟨h.F, fun k _ hk => if_neg hk, fun k _ hk => if_neg hk, fun k _ hk => if_neg hk, fun k _ hk => if_neg hk⟩, fun _ _ _ h => h, fun k hM hk => ?_, fun k hM hk => ?_, fun k hM hk => ?_, fun k hM hk => ?_⟩
  all_goals
    unfold Gh.mid
    by_cases hn : k = n
    · simp only [hn, if_true]
    · simp only [if_neg hn]
      first
        | exact h.blk k hM (by simp [hn, hk])
        | exact h.hi k hM (by simp [hn, hk])
        | exact h.cp k hM (by simp [hn, hk])
        | exact h.has k hM (by simp [hn, hk])
theorem AVR.dnL {M : Nat} {g' : Gh} {v : Value} : ∀ {us : List Nat} {g : Gh} {x : AV}, ExtL us M g g' → x.lt M = true → AVR g x v → AVR g' (x.dnL us) v
  | [], g, x, he, hl, h => h.ext ⟨he.F, fun n hn => he.blk n hn (by simp), fun n hn => he.hi n hn (by simp), fun n hn => he.cp n hn (by simp), fun n hn => he.has n hn (by simp)⟩ hl
  | n :: us, g, x, he, hl, h => by
    have hm := he.mid
    exact AVR.dnL (us := us) hm.2 (lt_dn hl) (h.dn hm.1 hl)
theorem AVR.dnL1 {M : Nat} {g' : Gh} {v : Value} : ∀ {us : List Nat} {g : Gh} {x : AV}, ExtL us M g g' → x.lt1 M = true → AVR g x v → AVR g' (x.dnL1 us) v
  | [], g, x, he, hl, h => h.ext1 ⟨he.F, fun n hn => he.blk n hn (by simp), fun n hn => he.hi n hn (by simp), fun n hn => he.cp n hn (by simp), fun n hn => he.has n hn (by simp)⟩ hl
  | n :: us, g, x, he, hl, h => by
    have hm := he.mid
    exact AVR.dnL1 (us := us) hm.2 (lt1_dn hl) (h.dn1 hm.1 hl)
theorem dnL1_sc : ∀ (us : List Nat) (x : AV), (x.dnL1 us).sc = x.sc
  | [], x => rfl
  | n :: us, x => (dnL1_sc us (x.down1 n)).trans (down1_sc n x)
theorem look_dnsL (us : List Nat) (k : Nat) : ∀ l : List (Nat × AV), look k (dnsL us l) = (look k l).map (AV.dnL us)
  | [] => rfl
  | (a, b) :: t => by
    simp only [dnsL, look, look_dnsL us k t]
    cases Nat.beq k a <;> rfl
/-- A variable's type stays known: it is not among those handed on, or it stays what it is. -/
def keepT (ns st : List Nat) (mem : List (Nat × Ob)) (m : Nat) : Bool :=
  memN m st || (!memN m ns && match look m mem with | some (.cells ..) => true | _ => false)
/-- What is left of an object that a call does not reach. -/
def Ob.rest (us ns st : List Nat) (mem : List (Nat × Ob)) : Ob → Ob
  | .cells size c => .cells size (c.map (AV.dnL1 us))
  | .tag m t => bif keepT ns st mem m then .tag m t else .frame 0 []
  | .frame sz l => .frame sz (dnsL us l)
  | o => o
def restM (us ns st : List Nat) (mem : List (Nat × Ob)) : List (Nat × Ob) → List (Nat × Ob)
  | [] => []
  | (k, o) :: t => (k, o.rest us ns st mem) :: restM us ns st mem t
theorem look_restM (us ns st : List Nat) (mem : List (Nat × Ob)) (k : Nat) : ∀ l : List (Nat × Ob), look k (restM us ns st mem l) = (look k l).map (Ob.rest us ns st mem)
  | [] => rfl
  | (a, b) :: t => by
    simp only [restM, look, look_restM us ns st mem k t]
    cases Nat.beq k a <;> rfl
def dead : List Nat → List (Nat × Ob)
  | [] => []
  | k :: t => (k, .frame 0 []) :: dead t
theorem look_dead (k : Nat) : ∀ ns : List Nat, look k (dead ns) = if k ∈ ns then some (.frame 0 []) else none
  | [] => by simp [dead, look]
  | a :: t => by
    simp only [dead]
    rw [look_cons, look_dead k t]
    by_cases h : k = a
    · simp [h]
    · simp [h]
def renM (φ : Nat → Nat) : List (Nat × Ob) → List (Nat × Ob)
  | [] => []
  | (k, o) :: t => (φ k, o.ren φ) :: renM φ t
theorem look_renM {φ : Nat → Nat} {k : Nat} {o : Ob} : ∀ {l : List (Nat × Ob)}, look k (renM φ l) = some o → ∃ j p, k = φ j ∧ (j, p) ∈ l ∧ o = p.ren φ
  | [], h => by cases h
  | (a, b) :: t, h => by
    simp only [renM] at h
    rw [look_cons] at h
    by_cases hk : k = φ a
    · rw [if_pos hk] at h
      exact ⟨a, b, hk, List.mem_cons_self, (Option.some.inj h).symm⟩
    · rw [if_neg hk] at h
      obtain ⟨j, p, h1, h2, h3⟩ := look_renM h
      exact ⟨j, p, h1, List.mem_cons_of_mem _ h2, h3⟩
theorem look_renM_inj {φ : Nat → Nat} {M : Nat} (hφ : ∀ i j, i < M → j < M → φ i = φ j → i = j) {j : Nat} (hj : j < M) : ∀ {l : List (Nat × Ob)}, (∀ p ∈ l, p.1 < M) → look (φ j) (renM φ l) = (look j l).map (Ob.ren φ)
  | [], _ => rfl
  | (a, b) :: t, hl => by
    simp only [renM]
    rw [look_cons, look_cons, look_renM_inj hφ hj (fun p hp => hl p (List.mem_cons_of_mem _ hp))]
    by_cases h : j = a
    · subst h; simp
    · rw [if_neg h, if_neg (fun e => h (hφ _ _ hj (hl (a, b) List.mem_cons_self) e))]
end Go.Sy

/- Contracts of functions that write into variables of the caller's, and hand on new ones: the contract, and a call by it. Conditions: none. -/
namespace Go.Sy
set_option linter.unusedVariables false
set_option linter.unusedSimpArgs false
def k0 (w : World) (F : Nat → Nat → Option Value) : Ctx := kz w
/-- How the world stands behind a call. -/
structure HEnd (g : Gh) (w : World) (g' : Gh) (w' : World) (pre : List (Nat × Ob)) (st : List Nat) (post : List (Nat × Ob)) : Prop where
  F : ∀ b o v, g.F b o = some v → g'.F b o = some v
  fnew : ∀ b o v, g'.F b o = some v → g.F b o = some v ∨ w.heap.size ≤ b ∨ ∃ k, On g pre k ∧ b = g.blk k
  frz : ∀ b o v, g'.F b o = some v → w'.cell? ⟨b, o, none⟩ = some v
  obs : ∀ k ob, look k post = some ob → ObOK (k0 w g.F) g' w' k ob
  inj : ∀ k j, k ≠ j → On g' post k → On g' post j → g'.blk k ≠ g'.blk j
  own : ∀ k, On g' post k → w.heap.size ≤ g'.blk k ∨ ∃ j, On g pre j ∧ g'.blk k = g.blk j
  stay : ∀ k ∈ st, g'.blk k = g.blk k ∧ g'.hi k = g.hi k ∧ g'.cp k = g.cp k ∧ g'.has k = g.has k
  ty : ∀ k ∈ st, ∀ arr T z, w.heap[g.blk k]? = some (.cells arr T z) → ∃ arr' z', w'.heap[g.blk k]? = some (.cells arr' T z')
  size : w.heap.size ≤ w'.heap.size
  pres : ∀ b, b < w.heap.size → (∀ k, On g pre k → b ≠ g.blk k) → w'.heap[b]? = w.heap[b]?
  os : w'.os = w.os
  tape : w'.tape = w.tape
  output : w'.output = w.output

/-- A contract of a function of data and of some variables: what they are ahead, and behind; of names below n ahead, below m behind; those of st stay where they are. -/
structure FnH (P : Program) (f : Nat) (args : List AV) (pre : List (Nat × Ob)) (n : Nat) (st : List Nat) (r : AV) (post : List (Nat × Ob)) (m : Nat) : Prop where
  a : args.all (AV.lt n) = true
  p : pre.all (fun p => Nat.blt p.1 n && p.2.lt n && p.2.pl) = true
  q : post.all (fun p => Nat.blt p.1 m && p.2.lt m && p.2.pl) = true
  nm : n ≤ m
  rl : r.lt m = true
  sn : st.all (fun k => Nat.blt k n) = true
  run : ∀ (g : Gh) (w : World) (vs : Array Value), (∀ b o v, g.F b o = some v → w.cell? ⟨b, o, none⟩ = some v) → GOK g.F → (∀ k ob, look k pre = some ob → ObOK (k0 w g.F) g w k ob) → (∀ k j, k ≠ j → On g pre k → On g pre j → g.blk k ≠ g.blk j) →
    vs.size = args.length → (∀ j (h : j < args.length), AVR g args[j] (vs.getD j undef)) →
    Step P f vs w fun e w' => ∃ v g', e = .returned v ∧ AVR g' r v ∧ HEnd g w g' w' pre st post

def invN : List Nat → Nat → Nat → Option Nat
  | [], _, _ => none
  | a :: t, i, q => if q = a then some i else invN t (i + 1) q
theorem invN_none : ∀ {ns : List Nat} {i q : Nat}, q ∉ ns → invN ns i q = none
  | [], _, _, _ => rfl
  | a :: t, i, q, h => by
    simp only [List.mem_cons, not_or] at h
    simp only [invN]
    rw [if_neg h.1, invN_none h.2]
theorem invN_at : ∀ {ns : List Nat} {i k : Nat}, ns.Nodup → k < ns.length → invN ns i (ns.getD k 0) = some (i + k)
  | a :: t, i, 0, _, _ => by simp [invN]
  | a :: t, i, k + 1, hn, hk => by
    have hk' : k < t.length := by simpa using hk
    have e : (a :: t).getD (k + 1) 0 = t.getD k 0 := by simp [List.getD]
    have hm : t.getD k 0 ∈ t := by rw [List.getD_eq_getElem?_getD, List.getElem?_eq_getElem hk']; exact List.getElem_mem hk'
    rw [e]
    simp only [invN]
    have hne : t.getD k 0 ≠ a := fun h => by
      rw [h] at hm; exact (List.nodup_cons.1 hn).1 hm
    rw [if_neg hne, invN_at (List.nodup_cons.1 hn).2 hk']
    congr 1; omega
/-- The caller's names of those that do not stay. -/
def usL (st : List Nat) : Nat → List Nat → List Nat
  | _, [] => []
  | i, a :: t => bif memN i st then usL st (i + 1) t else a :: usL st (i + 1) t
theorem usL_not {st : List Nat} : ∀ {i : Nat} {ns : List Nat} {k : Nat}, k < ns.length → ns.getD k 0 ∉ usL st i ns → memN (i + k) st = true
  | i, a :: t, 0, _, h => by
    simp only [usL] at h
    cases hm : memN i st with
    | true => rfl
    | false => rw [hm] at h; simp at h
  | i, a :: t, k + 1, hk, h => by
    have hk' : k < t.length := by simpa using hk
    rw [show i + (k + 1) = i + 1 + k by omega]
    refine usL_not (ns := t) hk' fun hh => h ?_
    have e : (a :: t).getD (k + 1) 0 = t.getD k 0 := by simp [List.getD]
    rw [e]
    simp only [usL]
    cases memN i st
    · exact List.mem_cons_of_mem _ hh
    · exact hh
def phi (ns : List Nat) (n nx : Nat) (k : Nat) : Nat := bif Nat.blt k n then ns.getD k 0 else nx + k
def phi0 (ns : List Nat) (k : Nat) : Nat := ns.getD k 0
theorem phi_lt {ns : List Nat} {n nx k : Nat} (h : k < n) : phi ns n nx k = ns.getD k 0 := by unfold phi; rw [show Nat.blt k n = true from by simpa using h]; rfl
theorem phi_ge {ns : List Nat} {n nx k : Nat} (h : n ≤ k) : phi ns n nx k = nx + k := by
  unfold phi
  have : Nat.blt k n = false := by
    cases hb : Nat.blt k n with
    | true => rw [Nat.blt_eq] at hb; omega
    | false => rfl
  rw [this]; rfl
/-- The caller's ghosts behind the call. -/
def Gh.after (g gc : Gh) (ns : List Nat) (nx : Nat) : Gh :=
  ⟨gc.F, fun q => match invN ns 0 q with | some k => gc.blk k | none => if nx ≤ q then gc.blk (q - nx) else g.blk q,
   fun q => match invN ns 0 q with | some k => gc.hi k | none => if nx ≤ q then gc.hi (q - nx) else g.hi q,
   fun q => match invN ns 0 q with | some k => gc.cp k | none => if nx ≤ q then gc.cp (q - nx) else g.cp q,
   fun q => match invN ns 0 q with | some k => gc.has k | none => if nx ≤ q then gc.has (q - nx) else g.has q⟩
section
variable {g gc : Gh} {ns : List Nat} {n nx : Nat}
theorem after_pull (hn : ns.Nodup) (hl : ns.length = n) (hb : ∀ q ∈ ns, q < nx) : (g.after gc ns nx).pull (phi ns n nx) = gc := by
  have key : ∀ k, (k < n → invN ns 0 (phi ns n nx k) = some k) ∧ (n ≤ k → invN ns 0 (phi ns n nx k) = none ∧ nx ≤ phi ns n nx k ∧ phi ns n nx k - nx = k) := fun k => by
    refine ⟨fun h => ?_, fun h => ?_⟩
    · rw [phi_lt h, invN_at hn (by omega)]; congr 1; omega
    · rw [phi_ge h]
      exact ⟨invN_none fun hm => by have := hb _ hm; omega, by omega, by omega⟩
  have e1 : ∀ (q : Nat → Nat) (r : Nat → Nat) k, (match invN ns 0 (phi ns n nx k) with | some k => q k | none => if nx ≤ phi ns n nx k then q (phi ns n nx k - nx) else r (phi ns n nx k)) = q k := fun q r k => by
    rcases Nat.lt_or_ge k n with h | h
    · rw [(key k).1 h]
    · obtain ⟨a, b, c⟩ := (key k).2 h
      rw [a, c]; simp only [b, if_true]
  have e2 : ∀ (q : Nat → Bool) (r : Nat → Bool) k, (match invN ns 0 (phi ns n nx k) with | some k => q k | none => if nx ≤ phi ns n nx k then q (phi ns n nx k - nx) else r (phi ns n nx k)) = q k := fun q r k => by
    rcases Nat.lt_or_ge k n with h | h
    · rw [(key k).1 h]
    · obtain ⟨a, b, c⟩ := (key k).2 h
      rw [a, c]; simp only [b, if_true]
  cases gc with
  | mk F blk hi cp has =>
    unfold Gh.pull Gh.after
    congr 1
    · funext k; exact e1 blk g.blk k
    · funext k; exact e1 hi g.hi k
    · funext k; exact e1 cp g.cp k
    · funext k; exact e2 has g.has k
theorem after_old {q : Nat} (hq : q ∉ ns) (hx : q < nx) : (g.after gc ns nx).blk q = g.blk q ∧ (g.after gc ns nx).hi q = g.hi q ∧ (g.after gc ns nx).cp q = g.cp q ∧ (g.after gc ns nx).has q = g.has q := by
  have e := invN_none (i := 0) hq
  have h : ¬ nx ≤ q := by omega
  simp only [Gh.after, e, if_neg h, and_self]
theorem after_at {k : Nat} (hn : ns.Nodup) (hk : k < ns.length) : (g.after gc ns nx).blk (ns.getD k 0) = gc.blk k ∧ (g.after gc ns nx).hi (ns.getD k 0) = gc.hi k ∧ (g.after gc ns nx).cp (ns.getD k 0) = gc.cp k ∧ (g.after gc ns nx).has (ns.getD k 0) = gc.has k := by
  have e := invN_at (i := 0) hn hk
  rw [Nat.zero_add] at e
  simp only [Gh.after, e, and_self]
end
/-- What is said of objects stands in any context. -/
theorem ObOK.ctx {κ κ' : Ctx} {g : Gh} {w : World} {n : Nat} {o : Ob} (hp : o.pl = true) (h : ObOK κ g w n o) : ObOK κ' g w n o := by
  cases o with
  | frame => cases hp
  | loop => cases hp
  | cells => exact h
  | tail => exact h
  | vec => exact h
  | tag => exact h
theorem On.cells {g : Gh} {pre : List (Nat × Ob)} {κ : Ctx} {w : World} {k : Nat} (hp : ∀ k ob, look k pre = some ob → ob.pl = true) (ho : ∀ k ob, look k pre = some ob → ObOK κ g w k ob) (h : On g pre k) : ∃ arr T, w.heap[g.blk k]? = some (.cells arr T (0, 0)) := by
  unfold On at h
  cases hl : look k pre with
  | none => rw [hl] at h; exact h.elim
  | some ob =>
    rw [hl] at h
    have hob := ho k ob hl
    have hpl := hp k ob hl
    cases ob with
    | cells => obtain ⟨arr, T, e, _⟩ := hob; exact ⟨arr, T, e⟩
    | tail t b => obtain ⟨arr, T, e, _⟩ := hob.1 h; exact ⟨arr, _, e⟩
    | vec t sz es f => obtain ⟨arr, e, _⟩ := hob.2.2 h; exact ⟨arr, _, e⟩
    | tag => exact h.elim
    | frame => exact h.elim
    | loop => cases hpl
theorem On.ren {g : Gh} {φ : Nat → Nat} {pre mem : List (Nat × Ob)} {k : Nat} (hp : ∀ k ob, look k pre = some ob → ob.pl = true) (hm : ∀ k ob, look k pre = some ob → look (φ k) mem = some (ob.ren φ)) (h : On (g.pull φ) pre k) : On g mem (φ k) := by
  unfold On at h ⊢
  cases hl : look k pre with
  | none => rw [hl] at h; exact h.elim
  | some ob =>
    rw [hl] at h
    rw [hm k ob hl]
    have hpl := hp k ob hl
    cases ob with
    | cells => trivial
    | tail => exact h
    | vec => exact h
    | tag => exact h.elim
    | frame => exact h.elim
    | loop => cases hpl
end Go.Sy

/- A call by a contract of a function that writes into variables of the caller's. Conditions: none. -/
namespace Go.Sy
set_option linter.unusedVariables false
set_option linter.unusedSimpArgs false
section
variable {P : Program} {ti : Nat → Option Ty} {N : Nat}
theorem memN_false {a : Nat} {l : List Nat} (h : memN a l = false) : a ∉ l := fun hm => by rw [memN_iff.2 hm] at h; cases h
/-- What stands behind a call. -/
theorem Inv.after {κ : Ctx} {g gc : Gh} {mem pre post : List (Nat × Ob)} {nx n m : Nat} {w w' : World} {ns st : List Nat} (hi : Inv κ g mem w) (hmem : ∀ k ob, look k mem = some ob → k < nx ∧ ob.lt nx = true)
    (hn : ns.Nodup) (hl : ns.length = n) (hb : ∀ q ∈ ns, q < nx) (hst : ∀ k ∈ st, k < n) (hp : ∀ k ob, look k pre = some ob → k < n ∧ ob.lt n = true ∧ ob.pl = true) (hq : ∀ p ∈ post, p.1 < m ∧ p.2.lt m = true ∧ p.2.pl = true) (hnm : n ≤ m)
    (hpre : ∀ k ob, look k pre = some ob → look (phi0 ns k) mem = some (ob.ren (phi0 ns))) (he : HEnd (g.pull (phi0 ns)) w gc w' pre st post) :
    Inv κ (g.after gc ns nx) (renM (phi ns n nx) post ++ (dead ns ++ restM (usL st 0 ns) ns (st.map (phi0 ns)) mem mem)) w' ∧ ExtL (usL st 0 ns) nx g (g.after gc ns nx) := by
  let φ := phi0 ns
  let φ' := phi ns n nx
  let g' := g.after gc ns nx
  have lt_of : ∀ {b : Nat} {x : Obj}, w.heap[b]? = some x → b < w.heap.size := fun h => by
    rcases Nat.lt_or_ge _ w.heap.size with h' | h'
    · exact h'
    · rw [Array.getElem?_eq_none h'] at h; cases h
  have hpull : g'.pull φ' = gc := after_pull hn hl hb
  have hmemφ : ∀ k, k < n → φ k ∈ ns := fun k hk => by
    show ns.getD k 0 ∈ ns
    rw [List.getD_eq_getElem?_getD, List.getElem?_eq_getElem (by omega)]; exact List.getElem_mem _
  have hφinj : ∀ i j, i < n → j < n → φ i = φ j → i = j := fun i j h1 h2 h => by
    have e1 := invN_at (i := 0) hn (k := i) (by omega)
    have e2 := invN_at (i := 0) hn (k := j) (by omega)
    have h' : ns.getD i 0 = ns.getD j 0 := h
    rw [h', e2] at e1
    have := Option.some.inj e1; omega
  have hφ' : ∀ i j, i < m → j < m → φ' i = φ' j → i = j := fun i j _ _ h => by
    have h : phi ns n nx i = phi ns n nx j := h
    rcases Nat.lt_or_ge i n with h1 | h1 <;> rcases Nat.lt_or_ge j n with h2 | h2
    · rw [phi_lt h1, phi_lt h2] at h; exact hφinj i j h1 h2 h
    · rw [phi_lt h1, phi_ge h2] at h
      have := hb _ (hmemφ i h1)
      have : ns.getD i 0 < nx := this
      omega
    · rw [phi_ge h1, phi_lt h2] at h
      have : ns.getD j 0 < nx := hb _ (hmemφ j h2)
      omega
    · rw [phi_ge h1, phi_ge h2] at h; omega
  have hpl : ∀ k ob, look k pre = some ob → ob.pl = true := fun k ob h => (hp k ob h).2.2
  have hobp : ∀ k ob, look k pre = some ob → ObOK (k0 w g.F) (g.pull φ) w k ob := fun k ob h => (hi.obs _ _ (hpre k ob h)).pull (hp k ob h).2.2 (hp k ob h).2.1
  have onp : ∀ k, On (g.pull φ) pre k → On g mem (φ k) ∧ k < n := fun k h => by
    refine ⟨On.ren hpl hpre h, ?_⟩
    unfold On at h
    cases hlk : look k pre with
    | none => rw [hlk] at h; exact h.elim
    | some ob => exact (hp k ob hlk).1
  have hext : ExtL (usL st 0 ns) nx g g' := by
    have key : ∀ q, q < nx → q ∉ usL st 0 ns → g'.blk q = g.blk q ∧ g'.hi q = g.hi q ∧ g'.cp q = g.cp q ∧ g'.has q = g.has q := fun q hqx hqu => by
      by_cases hqn : q ∈ ns
      · obtain ⟨k, hk, e⟩ := List.getElem_of_mem hqn
        have e' : ns.getD k 0 = q := by rw [List.getD_eq_getElem?_getD, List.getElem?_eq_getElem hk]; exact e
        have hs := usL_not (st := st) (i := 0) (ns := ns) (k := k) hk (by rw [e']; exact hqu)
        rw [Nat.zero_add] at hs
        obtain ⟨s1, s2, s3, s4⟩ := he.stay k (memN_iff.1 hs)
        obtain ⟨a1, a2, a3, a4⟩ := after_at (g := g) (gc := gc) (nx := nx) hn hk
        rw [e'] at a1 a2 a3 a4
        have hq0 : phi0 ns k = q := e'
        simp only [Gh.pull, hq0] at s1 s2 s3 s4
        exact ⟨a1.trans s1, a2.trans s2, a3.trans s3, a4.trans s4⟩
      · exact after_old hqn hqx
    exact ⟨he.F, fun q h1 h2 => (key q h1 h2).1, fun q h1 h2 => (key q h1 h2).2.1, fun q h1 h2 => (key q h1 h2).2.2.1, fun q h1 h2 => (key q h1 h2).2.2.2⟩
  -- the blocks that the call does not reach
  have ne : ∀ q, q ∉ ns → On g mem q → ∀ k, On (g.pull φ) pre k → g.blk q ≠ (g.pull φ).blk k := fun q hqn hon k hk => by
    obtain ⟨h1, h2⟩ := onp k hk
    exact hi.inj q (φ k) (fun e => hqn (e ▸ hmemφ k h2)) hon h1
  have none_of : ∀ b o, b < w.heap.size → (∀ k, On (g.pull φ) pre k → b ≠ (g.pull φ).blk k) → g.F b o = none → gc.F b o = none := fun b o hb hne hnone => by
    cases hq' : gc.F b o with
    | none => rfl
    | some v =>
      rcases he.fnew _ _ _ hq' with h | h | ⟨k, h1, h2⟩
      · have h : g.F b o = some v := h
        rw [hnone] at h; cases h
      · omega
      · exact absurd h2 (hne k h1)
  have hlook : ∀ q, look q (renM φ' post ++ (dead ns ++ restM (usL st 0 ns) ns (st.map φ) mem mem)) = match look q (renM φ' post) with | some v => some v | none => if q ∈ ns then some (.frame 0 []) else (look q mem).map (Ob.rest (usL st 0 ns) ns (st.map φ) mem) := fun q => by
    rw [look_app, look_app, look_dead, look_restM]
    cases look q (renM φ' post) with
    | some v => rfl
    | none =>
      by_cases hqn : q ∈ ns
      · rw [if_pos hqn, if_pos hqn]
      · rw [if_neg hqn, if_neg hqn]
  have hpost : ∀ {q ob}, look q (renM φ' post) = some ob → ∃ j p, q = φ' j ∧ j < m ∧ look j post = some p ∧ ob = p.ren φ' ∧ p.lt m = true ∧ p.pl = true := fun {q ob} h => by
    obtain ⟨j, p, rfl, hm, e⟩ := look_renM h
    have hj := hq _ hm
    have e2 := look_renM_inj (l := post) hφ' hj.1 (fun p hp => (hq p hp).1)
    rw [e2] at h
    cases hlp : look j post with
    | none => rw [hlp] at h; cases h
    | some p' =>
      rw [hlp] at h
      have hp' := hq _ (look_mem hlp)
      exact ⟨j, p', rfl, hj.1, hlp, (Option.some.inj h).symm, hp'.2.1, hp'.2.2⟩
  -- which names have blocks
  have on : ∀ q, On g' (renM φ' post ++ (dead ns ++ restM (usL st 0 ns) ns (st.map φ) mem mem)) q → (∃ j, q = φ' j ∧ On gc post j ∧ g'.blk q = gc.blk j) ∨ (q ∉ ns ∧ q < nx ∧ On g mem q ∧ g'.blk q = g.blk q) := fun q h => by
    unfold On at h
    rw [hlook] at h
    cases h1 : look q (renM φ' post) with
    | some ob =>
      rw [h1] at h
      obtain ⟨j, p, rfl, hj, hlp, rfl, _, hppl⟩ := hpost h1
      have hbk : g'.blk (φ' j) = gc.blk j := by rw [← hpull]; rfl
      have hhs : g'.has (φ' j) = gc.has j := by rw [← hpull]; rfl
      refine .inl ⟨j, rfl, ?_, hbk⟩
      unfold On
      rw [hlp]
      cases p with
      | cells => trivial
      | tail => exact hhs.symm.trans h
      | vec => exact hhs.symm.trans h
      | tag => exact h.elim
      | frame => cases hppl
      | loop => cases hppl
    | none =>
      rw [h1] at h
      by_cases hqn : q ∈ ns
      · simp only [if_pos hqn] at h
      · simp only [if_neg hqn] at h
        cases h2 : look q mem with
        | none => rw [h2] at h; exact h.elim
        | some ob =>
          rw [h2] at h
          have hqx := (hmem q ob h2).1
          obtain ⟨a1, a2, a3, a4⟩ := after_old (g := g) (gc := gc) hqn hqx
          refine .inr ⟨hqn, hqx, ?_, a1⟩
          unfold On
          rw [h2]
          cases ob with
          | cells => trivial
          | tail => exact a4.symm.trans h
          | vec => exact a4.symm.trans h
          | tag k t =>
            simp only [Option.map, Ob.rest] at h
            cases hk : keepT ns (st.map φ) mem k <;> rw [hk] at h <;> exact h
          | frame => exact h
          | loop => trivial
  have ownp : ∀ k, On (g.pull φ) pre k → κ.w0.heap.size ≤ (g.pull φ).blk k ∨ (g.pull φ).blk k ∈ κ.mod := fun k hk => hi.own (φ k) (onp k hk).1
  have old_lt : ∀ q, On g mem q → g.blk q < w.heap.size := fun q h => hi.blt h
  refine ⟨⟨he.frz, fun q ob h => ?_, fun q q' hqq h h' => ?_, Nat.le_trans hi.size he.size, fun b hb' hm => ?_, fun q h => ?_, fun b o v h => he.F _ _ _ (hi.f0 _ _ _ h), fun b o v h => ?_, he.os.trans hi.os, he.tape.trans hi.tape, he.output.trans hi.output, fun D hD => ?_⟩, hext⟩
  · rw [hlook] at h
    cases h1 : look q (renM φ' post) with
    | some ob' =>
      rw [h1] at h
      obtain rfl := Option.some.inj h
      obtain ⟨j, p, rfl, hj, hlp, rfl, hlt, hppl⟩ := hpost h1
      have := he.obs j p hlp
      rw [← hpull] at this
      exact this.push hppl hlt
    | none =>
      rw [h1] at h
      by_cases hqn : q ∈ ns
      · simp only [if_pos hqn] at h
        obtain rfl := Option.some.inj h
        exact ⟨fun m hm => by omega, fun s v hs => by cases hs⟩
      · simp only [if_neg hqn] at h
        cases h2 : look q mem with
        | none => rw [h2] at h; cases h
        | some ob0 =>
          rw [h2] at h
          obtain rfl := Option.some.inj h
          obtain ⟨hqx, hlt⟩ := hmem q ob0 h2
          obtain ⟨a1, a2, a3, a4⟩ := after_old (g := g) (gc := gc) (nx := nx) hqn hqx
          have hob := hi.obs q ob0 h2
          have same : On g mem q → w'.heap[g.blk q]? = w.heap[g.blk q]? := fun hon => he.pres _ (old_lt q hon) (ne q hqn hon)
          have noF : On g mem q → ∀ o, g.F (g.blk q) o = none → gc.F (g.blk q) o = none := fun hon o ho => none_of _ _ (old_lt q hon) (ne q hqn hon) ho
          cases ob0 with
          | cells size c =>
            have hon : On g mem q := by unfold On; rw [h2]; trivial
            simp only [Ob.lt, List.all_eq_true] at hlt
            obtain ⟨arr, T, e1, e2, e3, e4, e5, e6⟩ := hob
            refine ⟨arr, T, by rw [a1, same hon]; exact e1, e2, by rw [List.length_map]; exact e3, fun j hj => ?_, fun j hj => ?_, fun o => by rw [a1]; exact noF hon o (e6 o)⟩
            · simp only [List.length_map] at hj
              rw [List.getElem_map, dnL1_sc]; exact e4 j hj
            · simp only [List.length_map] at hj
              rw [List.getElem_map]
              exact AVR.dnL1 hext (hlt _ (List.getElem_mem hj)) (e5 j hj)
          | tail t b =>
            refine ⟨fun hh => ?_, fun hb hh => a2.trans (hob.2 hb (a4.symm.trans hh))⟩
            have hh' := a4.symm.trans hh
            have hon : On g mem q := by unfold On; rw [h2]; exact hh'
            obtain ⟨arr, T, e1, e2, e3, e4⟩ := hob.1 hh'
            exact ⟨arr, T, by rw [a1, same hon]; exact e1, by rw [a3]; exact e2, by rw [a2, a3]; exact e3, fun o ho => by rw [a2] at ho; rw [a1]; exact noF hon o (e4 o ho)⟩
          | vec t sz es f =>
            refine VecOK.mono hob he.F a1 a2 a3 a4 (fun hh => same (by unfold On; rw [h2]; exact hh)) fun hh o ho => noF (by unfold On; rw [h2]; exact hh) o ho
          | tag k t =>
            simp only [Ob.rest]
            cases hk : keepT ns (st.map φ) mem k with
            | false => exact ⟨fun m hm => by omega, fun s v hs => by cases hs⟩
            | true =>
              obtain ⟨arr, fz, e⟩ := hob
              simp only [Ob.lt, Nat.blt_eq] at hlt
              unfold keepT at hk
              rw [Bool.or_eq_true, Bool.and_eq_true] at hk
              rcases hk with hk | ⟨hk1, hk2⟩
              · have hks := memN_iff.1 hk
                rw [List.mem_map] at hks
                obtain ⟨j, hj, e0⟩ := hks
                subst e0
                obtain ⟨s1, _⟩ := he.stay j hj
                obtain ⟨b1, _⟩ := after_at (g := g) (gc := gc) (nx := nx) hn (k := j) (by have := hst j hj; omega)
                have e' : g'.blk (φ j) = g.blk (φ j) := (show g'.blk (φ j) = gc.blk j from b1).trans s1
                obtain ⟨arr', z', e2⟩ := he.ty j hj _ _ _ e
                exact ⟨arr', z', by rw [e']; exact e2⟩
              · have hkn : k ∉ ns := by
                  rw [Bool.not_eq_true'] at hk1; exact memN_false hk1
                cases h3 : look k mem with
                | none => rw [h3] at hk2; cases hk2
                | some ok =>
                  rw [h3] at hk2
                  cases ok with
                  | cells s c =>
                    have hon : On g mem k := by unfold On; rw [h3]; trivial
                    obtain ⟨b1, _⟩ := after_old (g := g) (gc := gc) hkn hlt
                    exact ⟨arr, fz, by rw [b1, he.pres _ (old_lt k hon) (ne k hkn hon)]; exact e⟩
                  | _ => cases hk2
          | frame sz l =>
            simp only [Ob.lt, List.all_eq_true] at hlt
            refine ⟨hob.1, fun s v hs => ?_⟩
            rw [look_dnsL] at hs
            cases h4 : look s l with
            | none => rw [h4] at hs; cases hs
            | some v0 =>
              rw [h4] at hs
              obtain rfl := Option.some.inj hs
              exact AVR.dnL hext (hlt _ (look_mem h4)) (hob.2 s v0 h4)
          | loop k ps asg body sst pd =>
            have hon : On g mem q := by unfold On; rw [h2]; trivial
            obtain ⟨eb, fn, D, e⟩ := hob
            exact ⟨a1.trans eb, fn, D, by rw [a1, same hon]; exact e⟩
  · rcases on q h with ⟨j, rfl, o1, b1⟩ | ⟨n1, x1, o1, b1⟩ <;> rcases on q' h' with ⟨j', rfl, o2, b2⟩ | ⟨n2, x2, o2, b2⟩
    · rw [b1, b2]; exact he.inj j j' (fun e => hqq (by rw [e])) o1 o2
    · rw [b1, b2]
      rcases he.own j o1 with h3 | ⟨k, h3, h4⟩
      · have := old_lt q' o2; omega
      · rw [h4]; exact (ne q' n2 o2 k h3).symm
    · rw [b1, b2]
      rcases he.own j' o2 with h3 | ⟨k, h3, h4⟩
      · have := old_lt q o1; omega
      · rw [h4]; exact ne q n1 o1 k h3
    · rw [b1, b2]; exact hi.inj q q' hqq o1 o2
  · have := hi.size
    rw [he.pres b (by omega) (fun k hk e => by
      rcases ownp k hk with h | h
      · have h : κ.w0.heap.size ≤ (g.pull (phi0 ns)).blk k := h
        omega
      · exact hm (e ▸ h))]
    exact hi.pres b hb' hm
  · rcases on q h with ⟨j, rfl, o1, b1⟩ | ⟨n1, x1, o1, b1⟩
    · rw [b1]
      rcases he.own j o1 with h3 | ⟨k, h3, h4⟩
      · have := hi.size; exact .inl (by omega)
      · rw [h4]; exact ownp k h3
    · rw [b1]; exact hi.own q o1
  · rcases he.fnew _ _ _ h with h | h | ⟨k, h1, h2⟩
    · exact hi.fnew _ _ _ h
    · have := hi.size; exact .inr (.inl (by omega))
    · rw [h2]; exact .inr (ownp k h1)
  · have e := hi.dfr D hD
    rw [he.pres D (lt_of e) (fun k hk h => by
      obtain ⟨arr, T, e2⟩ := On.cells hpl hobp hk
      rw [← h, e] at e2; cases e2)]
    exact e
end
end Go.Sy

/- Contracts of functions that write into variables of the caller's, out of a body. Conditions: none. -/
namespace Go.Sy
set_option linter.unusedVariables false
set_option linter.unusedSimpArgs false
def pinL : List Nat → List (Nat × AV)
  | [] => []
  | k :: t => (k, .ptr k 0) :: pinL t
def tagsL (T : Nat → Nat) : Nat → List Nat → List (Nat × Ob)
  | _, [] => []
  | i, k :: t => (i, .tag k (T k)) :: tagsL T (i + 1) t
/-- What tells where the variables that stay lie. -/
def keepL (n : Nat) (st : List Nat) (T : Nat → Nat) : List (Nat × Ob) := (n, .frame (n + 1) (pinL st)) :: tagsL T (n + 1) st
def AV.nt0 (st : List Nat) : AV → Bool
  | .ts _ _ n | .sd _ n | .vx _ n _ _ | .vq _ n _ _ => !memN n st
  | _ => true
def AV.nt1 (st : List Nat) : AV → Bool
  | .fn _ a b => a.all (AV.nt0 st) && b.all (AV.nt0 st)
  | v => v.nt0 st
def AV.nt2 (st : List Nat) : AV → Bool
  | .ag _ cs => cs.all (AV.nt1 st)
  | v => v.nt1 st
def AV.nt (st : List Nat) : AV → Bool
  | .tup vs => vs.all (AV.nt2 st)
  | v => v.nt2 st
/-- The names of st are names of variables alone. -/
def Ob.nt (st : List Nat) (k : Nat) : Ob → Bool
  | .cells _ c => c.all (AV.nt1 st)
  | .tail .. | .vec .. => !memN k st
  | _ => true
def Gh.reset (g0 g : Gh) (st : List Nat) : Gh := ⟨g.F, g.blk, fun k => bif memN k st then g0.hi k else g.hi k, fun k => bif memN k st then g0.cp k else g.cp k, fun k => bif memN k st then g0.has k else g.has k⟩
section
variable {g0 g : Gh} {st : List Nat}
theorem reset_at {k : Nat} (h : (!memN k st) = true) : (g0.reset g st).hi k = g.hi k ∧ (g0.reset g st).cp k = g.cp k ∧ (g0.reset g st).has k = g.has k := by
  rw [Bool.not_eq_true'] at h
  unfold Gh.reset
  simp only [h, cond_false, and_self]
theorem AVR.reset0 {x : AV} {v : Value} {m : Nat} (hl : x.lt0 m = true) (hn : x.nt0 st = true) (h : AVR g x v) : AVR (g0.reset g st) x v := by
  cases h with
  | d x v h => exact .d x v h
  | dg k cs vs h1 h2 h => exact .dg k cs vs h1 h2 h
  | ag => cases hl
  | tup => cases hl
  | fn => cases hl
  | ptr n off => exact .ptr (g := g0.reset g st) n off
  | ms sz n off len cap ad had hc => exact .ms (g := g0.reset g st) sz n off len cap ad had hc
  | ts0 sz es n a len hl1 hd hh hz =>
    obtain ⟨e1, e2, e3⟩ := reset_at (g0 := g0) (g := g) hn
    exact .ts0 (g := g0.reset g st) sz es n a len hl1 hd (e3.trans hh) fun h => hz (e1.symm.trans h)
  | ts sz es n off len cap h0 hn' hd hl' hc h1 h2 hpos =>
    obtain ⟨e1, e2, e3⟩ := reset_at (g0 := g0) (g := g) hn
    exact .ts (g := g0.reset g st) sz es n off len cap h0 (e3.trans hn') hd hl' hc (h1.trans e1.symm) (h2.trans e2.symm) hpos
  | tg sz es a len hl' hd => exact .tg sz es a len hl' hd
  | nl sz => exact .nl sz
  | sd es n p h =>
    obtain ⟨e1, e2, e3⟩ := reset_at (g0 := g0) (g := g) hn
    refine .sd (g := g0.reset g st) es n p fun hne => ?_
    obtain ⟨off, len, cap, k1, k2, k3, k4, k5⟩ := h hne
    exact ⟨off, len, cap, k1, e3.trans k2, k3, k4, k5.trans e1.symm⟩
  | yld n => exact .yld (g := g0.reset g st) n
  | vx sz n i len ad c hc had =>
    obtain ⟨e1, e2, e3⟩ := reset_at (g0 := g0) (g := g) hn
    exact .vx (g := g0.reset g st) sz n i len ad c hc (by unfold VxOK; rw [e1, e2, e3]; exact had)
  | vq sz n k off h =>
    obtain ⟨e1, e2, e3⟩ := reset_at (g0 := g0) (g := g) hn
    have := AVR.vq (g := g0.reset g st) sz n k off (e3.trans h)
    rw [e1] at this
    exact this
  | jk v h => exact .jk v h
  | junk v => exact .junk v
theorem AVR.reset1 {x : AV} {v : Value} {m : Nat} (hl : x.lt1 m = true) (hn : x.nt1 st = true) (h : AVR g x v) : AVR (g0.reset g st) x v := by
  by_cases hx : ∃ f a b, x = .fn f a b
  · obtain ⟨f, a, b, rfl⟩ := hx
    simp only [AV.lt1, AV.nt1, List.all_eq_true, Bool.and_eq_true] at hl hn
    cases h with
    | fn _ _ _ vs ws h1 h2 h3 h4 => exact .fn f a b vs ws h1 h2 (fun j hj => (h3 j hj).reset0 (hl.1 _ (List.getElem_mem hj)) (hn.1 _ (List.getElem_mem hj))) fun j hj => (h4 j hj).reset0 (hl.2 _ (List.getElem_mem hj)) (hn.2 _ (List.getElem_mem hj))
  · exact h.reset0 (m := m) (by cases x <;> first | exact hl | exact absurd ⟨_, _, _, rfl⟩ hx) (by cases x <;> first | exact hn | exact absurd ⟨_, _, _, rfl⟩ hx)
theorem AVR.reset2 {x : AV} {v : Value} {m : Nat} (hl : x.lt2 m = true) (hn : x.nt2 st = true) (h : AVR g x v) : AVR (g0.reset g st) x v := by
  by_cases hx : ∃ k cs, x = .ag k cs
  · obtain ⟨k, cs, rfl⟩ := hx
    simp only [AV.lt2, AV.nt2, List.all_eq_true] at hl hn
    cases h with
    | ag _ _ vs h1 h2 h3 h => exact .ag k cs vs h1 h2 h3 fun j hj => (h j hj).reset1 (hl _ (List.getElem_mem hj)) (hn _ (List.getElem_mem hj))
  · exact h.reset1 (m := m) (by cases x <;> first | exact hl | exact absurd ⟨_, _, rfl⟩ hx) (by cases x <;> first | exact hn | exact absurd ⟨_, _, rfl⟩ hx)
theorem AVR.reset {x : AV} {v : Value} {m : Nat} (hl : x.lt m = true) (hn : x.nt st = true) (h : AVR g x v) : AVR (g0.reset g st) x v := by
  by_cases hx : ∃ vs, x = .tup vs
  · obtain ⟨cs, rfl⟩ := hx
    simp only [AV.lt, AV.nt, List.all_eq_true] at hl hn
    cases h with
    | tup _ vs h1 h => exact .tup cs vs h1 fun j hj => (h j hj).reset2 (hl _ (List.getElem_mem hj)) (hn _ (List.getElem_mem hj))
  · exact h.reset2 (m := m) (by cases x <;> first | exact hl | exact absurd ⟨_, rfl⟩ hx) (by cases x <;> first | exact hn | exact absurd ⟨_, rfl⟩ hx)
theorem ObOK.reset {κ κ' : Ctx} {w : World} {k m : Nat} {o : Ob} (hp : o.pl = true) (hl : o.lt m = true) (hn : o.nt st k = true) (h : ObOK κ g w k o) : ObOK κ' (g0.reset g st) w k o := by
  cases o with
  | cells size c =>
    simp only [Ob.lt, Ob.nt, List.all_eq_true] at hl hn
    obtain ⟨arr, T, e1, e2, e3, e4, e5, e6⟩ := h
    exact ⟨arr, T, e1, e2, e3, e4, fun j hj => (e5 j hj).reset1 (hl _ (List.getElem_mem hj)) (hn _ (List.getElem_mem hj)), e6⟩
  | tail t b =>
    obtain ⟨e1, e2, e3⟩ := reset_at (g0 := g0) (g := g) hn
    refine ⟨fun hh => ?_, fun hb hh => e1.trans (h.2 hb (e3.symm.trans hh))⟩
    obtain ⟨arr, u, a1, a2, a3, a4⟩ := h.1 (e3.symm.trans hh)
    exact ⟨arr, u, a1, by rw [e2]; exact a2, by rw [e1, e2]; exact a3, fun o ho => a4 o (by rw [e1] at ho; exact ho)⟩
  | vec t sz es f =>
    obtain ⟨e1, e2, e3⟩ := reset_at (g0 := g0) (g := g) hn
    exact VecOK.mono h (fun _ _ _ h => h) rfl e1 e2 e3 (fun _ => rfl) fun _ _ h => h
  | tag => exact h
  | frame => cases hp
  | loop => cases hp
end
theorem look_pinL : ∀ {st : List Nat} {k : Nat}, k ∈ st → look k (pinL st) = some (.ptr k 0)
  | a :: t, k, h => by
    simp only [pinL]
    rw [look_cons]
    by_cases hk : k = a
    · rw [if_pos hk, hk]
    · rw [if_neg hk]
      exact look_pinL (by rcases List.mem_cons.1 h with h | h <;> first | exact absurd h hk | exact h)
theorem pinL_look : ∀ {st : List Nat} {k : Nat} {v : AV}, look k (pinL st) = some v → v = .ptr k 0 ∧ k ∈ st
  | a :: t, k, v, h => by
    simp only [pinL] at h
    rw [look_cons] at h
    by_cases hk : k = a
    · rw [if_pos hk] at h; exact ⟨by rw [← Option.some.inj h, hk], by rw [hk]; exact List.mem_cons_self⟩
    · rw [if_neg hk] at h
      obtain ⟨h1, h2⟩ := pinL_look h
      exact ⟨h1, List.mem_cons_of_mem _ h2⟩
theorem look_tagsL {T : Nat → Nat} : ∀ {st : List Nat} {i k : Nat} {o : Ob}, look k (tagsL T i st) = some o → ∃ a, a ∈ st ∧ o = .tag a (T a) ∧ i ≤ k ∧ k < i + st.length
  | a :: t, i, k, o, h => by
    simp only [tagsL] at h
    rw [look_cons] at h
    by_cases hk : k = i
    · rw [if_pos hk] at h
      exact ⟨a, List.mem_cons_self, (Option.some.inj h).symm, by omega, by simp; omega⟩
    · rw [if_neg hk] at h
      obtain ⟨b, h1, h2, h3, h4⟩ := look_tagsL h
      exact ⟨b, List.mem_cons_of_mem _ h1, h2, by omega, by simp; omega⟩
theorem tagsL_look {T : Nat → Nat} : ∀ {st : List Nat} {i a : Nat}, a ∈ st → ∃ k, look k (tagsL T i st) = some (.tag a (T a)) ∧ i ≤ k
  | b :: t, i, a, h => by
    by_cases hab : a = b
    · exact ⟨i, by simp only [tagsL]; rw [look_cons, if_pos rfl, hab], Nat.le_refl _⟩
    · have h' : a ∈ t := by rcases List.mem_cons.1 h with h | h <;> first | exact absurd h hab | exact h
      obtain ⟨k, h1, h2⟩ := tagsL_look (i := i + 1) h'
      exact ⟨k, by simp only [tagsL]; rw [look_cons, if_neg (by omega)]; exact h1, by omega⟩
end Go.Sy

/- Contracts of functions that write into variables of the caller's, out of a body: the theorem. Conditions: none. -/
namespace Go.Sy
set_option linter.unusedVariables false
set_option linter.unusedSimpArgs false
section
variable {P : Program} {ti : Nat → Option Ty} {N : Nat}
/-- The end of a body with such a contract: said weaker, if one likes. -/
def finH (ti : Nat → Option Ty) (N : Nat) (rs : List ResultVar) (n : Nat) (st : List Nat) (T : Nat → Nat) (r : AV) (post : List (Nat × Ob)) : Exit → S → Prop
  | .ret, σ | .normal, σ => ∃ τ, Wk N σ τ ∧ (match resL ti rs τ with | some l => resV l = r | none => False) ∧ EntL τ.mem post ∧ EntL τ.mem (keepL n st T)
  | _, _ => False
theorem ptr_blk {g : Gh} {k b : Nat} (h : AVR g (.ptr k 0) (.pointer (some ⟨b, 0, none⟩))) : g.blk k = b := by
  generalize hv : Value.pointer (some ⟨b, 0, none⟩) = v at h
  cases h
  simpa using hv.symm
def cellsAt (k : Nat) (pre : List (Nat × Ob)) : Bool := match look k pre with | some (.cells ..) => true | _ => false
theorem FnH.intro {f : Nat} {fn : Func} {cd : Code} {args : List AV} {pre post : List (Nat × Ob)} {n m : Nat} {st : List Nat} {r : AV} (hti : TiOK P ti) (hf : P.funcs[f]? = some fn) (hb : fn.body = some cd) (hN : fn.ntmps = N) (hcall : ∀ (vs : Array Value) (w : World), (callFunc f vs).run P w = .ok (.enter f vs) w)
    (ha : args.all (AV.lt n) = true) (hp : pre.all (fun p => Nat.blt p.1 n && p.2.lt n && p.2.pl) = true) (hq : post.all (fun p => Nat.blt p.1 m && p.2.lt m && p.2.pl) = true) (hnm : n ≤ m) (hrl : r.lt m = true) (hs : st.all (fun k => Nat.blt k n && cellsAt k pre) = true)
    (hqt : post.all (fun p => p.2.nt st p.1) = true) (hrt : r.nt st = true) (hlen : Nat.ble args.length N = true)
    (h : ∀ T, vc P ti N cd (finH ti N fn.results.toList n st T r post) ⟨idx 0 args, pre ++ keepL n st T, n + 1 + st.length⟩) : FnH P f args pre n st r post m := by
  have hS : ∀ k ∈ st, k < n ∧ cellsAt k pre = true := fun k hk => by have := List.all_eq_true.1 hs k hk; simpa using this
  refine ⟨ha, hp, hq, hnm, hrl, List.all_eq_true.2 fun k hk => by simpa using (hS k hk).1, fun g w vs hfz hG hob hinj hsz hav => .inl ⟨hcall vs w, ?_⟩⟩
  have hlen := Nat.le_of_ble_eq_true hlen
  have hP : ∀ k ob, look k pre = some ob → k < n ∧ ob.lt n = true ∧ ob.pl = true := fun k ob h => by
    have := List.all_eq_true.1 hp _ (look_mem h)
    simp only [Bool.and_eq_true, Nat.blt_eq] at this
    exact ⟨this.1.1, this.1.2, this.2⟩
  have hQ : ∀ k ob, look k post = some ob → k < m ∧ ob.lt m = true ∧ ob.pl = true ∧ ob.nt st k = true := fun k ob h => by
    have h1 := List.all_eq_true.1 hq _ (look_mem h)
    have h2 := List.all_eq_true.1 hqt _ (look_mem h)
    simp only [Bool.and_eq_true, Nat.blt_eq] at h1
    exact ⟨h1.1.1, h1.1.2, h1.2, h2⟩
  have hst1 : ∀ k ∈ st, ∃ arr T, w.heap[g.blk k]? = some (.cells arr T (0, 0)) := fun k hk => by
    have hc := (hS k hk).2
    unfold cellsAt at hc
    cases hl : look k pre with
    | none => rw [hl] at hc; cases hc
    | some ob =>
      rw [hl] at hc
      cases ob with
      | cells s c => obtain ⟨arr, T, e, _⟩ := hob k _ hl; exact ⟨arr, T, e⟩
      | _ => cases hc
  let T : Nat → Nat := fun k => match w.heap[g.blk k]? with | some (.cells _ T _) => T | _ => 0
  have hT : ∀ k ∈ st, ∃ arr, w.heap[g.blk k]? = some (.cells arr (T k) (0, 0)) := fun k hk => by
    obtain ⟨arr, T', e⟩ := hst1 k hk
    refine ⟨arr, ?_⟩
    have : T k = T' := by show (match w.heap[g.blk k]? with | some (.cells _ T _) => T | _ => 0) = T'; rw [e]
    rw [this]; exact e
  obtain ⟨L, hL⟩ : ∃ L : List Nat, ∀ b, b ∈ L ↔ ∃ k, On g pre k ∧ b = g.blk k := by
    classical
    refine ⟨((pre.map (·.1)).filter (fun k => decide (On g pre k))).map g.blk, fun b => ?_⟩
    simp only [List.mem_map, List.mem_filter, decide_eq_true_eq]
    constructor
    · rintro ⟨k, ⟨_, h1⟩, rfl⟩; exact ⟨k, h1, rfl⟩
    · rintro ⟨k, h1, rfl⟩
      refine ⟨k, ⟨?_, h1⟩, rfl⟩
      unfold On at h1
      cases hl : look k pre with
      | none => rw [hl] at h1; exact h1.elim
      | some ob => exact ⟨(k, ob), look_mem hl, rfl⟩
  let pins : Array Value := Array.ofFn fun k : Fin n => Value.pointer (some ⟨g.blk k, 0, none⟩)
  have hpins : ∀ k, k < n → pins.getD k undef = .pointer (some ⟨g.blk k, 0, none⟩) := fun k hk => by
    have hk' : k < pins.size := by simp [pins, hk]
    rw [Array.getD, dif_pos hk']
    show pins[k] = _
    simp [pins]
  let κ : Ctx := ⟨w, g.F, L, none, [], [], fun _ => pins, fun _ => 0, hG⟩
  let mem0 := pre ++ keepL n st T
  have hkeep : ∀ k ob, look k (keepL n st T) = some ob → n ≤ k ∧ k < n + 1 + st.length ∧ ((k = n ∧ ob = .frame (n + 1) (pinL st)) ∨ ∃ a ∈ st, ob = .tag a (T a)) := fun k ob h => by
    unfold keepL at h
    rw [look_cons] at h
    by_cases hk : k = n
    · rw [if_pos hk] at h
      exact ⟨by omega, by omega, .inl ⟨hk, (Option.some.inj h).symm⟩⟩
    · rw [if_neg hk] at h
      obtain ⟨a, h1, h2, h3, h4⟩ := look_tagsL h
      exact ⟨by omega, by omega, .inr ⟨a, h1, h2⟩⟩
  have hlook : ∀ k ob, look k mem0 = some ob → look k pre = some ob ∨ look k (keepL n st T) = some ob := fun k ob h => by
    have h : look k (pre ++ keepL n st T) = some ob := h
    rw [look_app] at h
    cases hl : look k pre with
    | some o => rw [hl] at h; exact .inl h
    | none => rw [hl] at h; exact .inr h
  have hon : ∀ k, On g mem0 k → On g pre k := fun k h => by
    unfold On at h
    cases hl : look k mem0 with
    | none => rw [hl] at h; exact h.elim
    | some ob =>
      rw [hl] at h
      rcases hlook k ob hl with h1 | h1
      · unfold On; rw [h1]; exact h
      · obtain ⟨_, _, ⟨_, rfl⟩ | ⟨a, _, rfl⟩⟩ := hkeep k ob h1
        · exact h.elim
        · exact h.elim
  have hst : St κ N g ⟨idx 0 args, mem0, n + 1 + st.length⟩ { tmps := vs ++ Array.replicate (fn.ntmps - vs.size) undef, defers := [] } w := by
    rw [hN]
    refine St.args (hi := ⟨hfz, fun k ob hk => ?_, fun k j hkj h1 h2 => hinj k j hkj (hon k h1) (hon j h2), Nat.le_refl _, fun _ _ _ => rfl, fun k hk => .inr ((hL _).2 ⟨k, hon k hk, rfl⟩), fun _ _ _ h => h, fun _ _ _ h => .inl h, rfl, rfl, rfl, fun D hD => by cases hD⟩) rfl hlen hsz hav ?_
    · rcases hlook k ob hk with h1 | h1
      · exact (hob k ob h1).ctx (hP k ob h1).2.2
      · obtain ⟨_, _, ⟨_, rfl⟩ | ⟨a, ha', rfl⟩⟩ := hkeep k ob h1
        · refine ⟨fun q hq => ?_, fun s v hv => ?_⟩
          · obtain rfl : q = n := by omega
            show pins.size = q
            simp [pins]
          · obtain ⟨rfl, hs'⟩ := pinL_look hv
            show AVR g (.ptr s 0) (pins.getD s undef)
            rw [hpins s (hS s hs').1]
            exact .ptr s 0
        · obtain ⟨arr, e⟩ := hT a ha'
          exact ⟨arr, _, e⟩
    · rw [S.ok_iff]
      refine ⟨fun p hp' => AV.lt_mono (List.all_eq_true.1 ha _ (idx_mem _ _ _ hp')) (by show n ≤ n + 1 + st.length; omega), fun p hp' => ?_⟩
      show p.1 < n + 1 + st.length ∧ p.2.lt (n + 1 + st.length) = true
      have hp' : p ∈ pre ++ keepL n st T := hp'
      rcases List.mem_append.1 hp' with h1 | h1
      · have := List.all_eq_true.1 hp _ h1
        simp only [Bool.and_eq_true, Nat.blt_eq] at this
        exact ⟨by have := this.1.1; omega, Ob.lt_mono this.1.2 (by omega)⟩
      · have tg : ∀ {l : List Nat} {i : Nat} {p : Nat × Ob}, p ∈ tagsL T i l → ∃ a ∈ l, p.2 = .tag a (T a) ∧ p.1 < i + l.length := by
          intro l
          induction l with
          | nil => intro i p h; cases h
          | cons b t ih =>
            intro i p h
            simp only [tagsL, List.mem_cons] at h
            rcases h with rfl | h
            · exact ⟨b, List.mem_cons_self, rfl, by simp⟩
            · obtain ⟨a, q1, q2, q3⟩ := ih h
              exact ⟨a, List.mem_cons_of_mem _ q1, q2, by simp; omega⟩
        unfold keepL at h1
        rcases List.mem_cons.1 h1 with rfl | h1
        · refine ⟨by show n < _; omega, ?_⟩
          simp only [Ob.lt, List.all_eq_true]
          have pm : ∀ {l : List Nat} {p : Nat × AV}, p ∈ pinL l → p.1 ∈ l ∧ p.2 = .ptr p.1 0 := by
            intro l
            induction l with
            | nil => intro p h; cases h
            | cons b t ih =>
              intro p h
              simp only [pinL, List.mem_cons] at h
              rcases h with rfl | h
              · exact ⟨List.mem_cons_self, rfl⟩
              · exact ⟨List.mem_cons_of_mem _ (ih h).1, (ih h).2⟩
          intro x hx
          obtain ⟨q1, q2⟩ := pm hx
          rw [q2]
          have := (hS _ q1).1
          exact lt_ptr (by omega)
        · obtain ⟨a, q1, q2, q3⟩ := tg h1
          rw [q2]
          have := (hS _ q1).1
          refine ⟨by omega, ?_⟩
          simp only [Ob.lt, Nat.blt_eq]; omega
  refine calls_of_vc hti hf hb hN rfl rfl (h T) hst (fun e σ hq => ?_) fun e g' σ' a' w' hq' hst' => ?_
  · cases e with
    | ret => exact .inl rfl
    | normal => exact .inr rfl
    | _ => exact hq.elim
  · have hq2 : ∃ τ, Wk N σ' τ ∧ (match resL ti fn.results.toList τ with | some l => resV l = r | none => False) ∧ EntL τ.mem post ∧ EntL τ.mem (keepL n st T) := by
      cases e with
      | ret => exact hq'
      | normal => exact hq'
      | _ => exact hq'.elim
    obtain ⟨τ, hwk, hres, hpo, hke⟩ := hq2
    obtain ⟨g2, hst2⟩ := hwk.run _ _ _ _ hst'
    cases hl : resL ti fn.results.toList τ with
    | none => rw [hl] at hres; exact hres.elim
    | some l =>
      rw [hl] at hres
      obtain ⟨u, hu, hrun⟩ := resL_val hti hst2 hl
      rw [hres] at hu
      have hi := hst2.inv
      have hfr := hke.look (k := n) (v := .frame (n + 1) (pinL st)) (by unfold keepL; rw [look_cons, if_pos rfl])
      have hpin : ∀ k ∈ st, g2.blk k = g.blk k := fun k hk => by
        have h1 := (hi.obs n _ hfr).2 k _ (look_pinL hk)
        have h1 : AVR g2 (.ptr k 0) (pins.getD k undef) := h1
        rw [hpins k (hS k hk).1] at h1
        exact ptr_blk h1
      have hpon : ∀ k, On (g.reset g2 st) post k → On g2 τ.mem k := fun k h => by
        unfold On at h ⊢
        cases hk : look k post with
        | none => rw [hk] at h; exact h.elim
        | some ob =>
          rw [hk] at h
          rw [hpo.look hk]
          obtain ⟨_, _, q3, q4⟩ := hQ k ob hk
          cases ob with
          | cells => trivial
          | tail => exact (reset_at (g0 := g) (g := g2) q4).2.2.symm.trans h
          | vec => exact (reset_at (g0 := g) (g := g2) q4).2.2.symm.trans h
          | tag => exact h.elim
          | frame => exact h.elim
          | loop => trivial
      refine ⟨u, hrun, u, g.reset g2 st, rfl, hu.reset hrl hrt, ⟨hi.f0, fun b o v hv => ?_, hi.frz, fun k ob hk => ?_, fun k j hkj h1 h2 => hi.inj k j hkj (hpon k h1) (hpon j h2), fun k hk => ?_, fun k hk => ?_, fun k hk arr T' z hw => ?_, hi.size, fun b hb' hne => hi.pres b hb' fun hm => ?_, hi.os, hi.tape, hi.output⟩⟩
      · rcases hi.fnew b o v hv with h | h | h
        · exact .inl h
        · exact .inr (.inl h)
        · exact .inr (.inr ((hL b).1 h))
      · obtain ⟨_, q2, q3, q4⟩ := hQ k ob hk
        exact (hi.obs k ob (hpo.look hk)).reset q3 q2 q4
      · rcases hi.own k (hpon k hk) with h | h
        · exact .inl h
        · obtain ⟨j, h1, h2⟩ := (hL _).1 h
          exact .inr ⟨j, h1, h2⟩
      · have hm : memN k st = true := memN_iff.2 hk
        refine ⟨hpin k hk, ?_, ?_, ?_⟩ <;> (unfold Gh.reset; simp only [hm, cond_true])
      · obtain ⟨arr0, e0⟩ := hT k hk
        rw [e0] at hw
        cases hw
        obtain ⟨i, hi1, hi2⟩ := tagsL_look (T := T) (i := n + 1) hk
        have htg := hke.look (k := i) (v := .tag k (T k)) (by unfold keepL; rw [look_cons, if_neg (by omega)]; exact hi1)
        obtain ⟨arr, fz, e⟩ := hi.obs i _ htg
        exact ⟨arr, fz, by rw [← hpin k hk]; exact e⟩
      · obtain ⟨k, h1, h2⟩ := (hL b).1 hm
        exact hne k h1 h2
end
end Go.Sy

/- A part of a variable is cleared; a field of a vector's element is stored. Conditions: none. -/
namespace Go.Sy
set_option linter.unusedVariables false
set_option linter.unusedSimpArgs false
section
variable {P : Program} {ti : Nat → Option Ty} {N : Nat} {σ : S} {o : Oper} {K : S → Prop}
/-- A field of an element is stored. -/
theorem OpX.storeF {t n tt sz k off q : Nat} {x y : Operand} {v : AV} {ty : Ty} {l' : List AV} {l c : List D} {es es2 : List (List D)} {fl : Bool} (hti : TiOK P ti) (hop : o.op = .store t x y) (hno : o.dst = none) (ht : ti t = some ty) (hx : ρ σ.sl x = some (.vq sz n k off)) (hy : ρ σ.sl y = some v) (hm : look n σ.mem = some (.vec tt sz es fl))
    (hc : cellsA v = some (q, l')) (hl : allD l' = some l) (hsz : Nat.beq ty.size q = true) (h0 : Nat.blt 0 q = true) (hle : Nat.ble (off + q) sz = true) (hk : es[k]? = some c) (hes : es2 = es.take k ++ [c.take off ++ l ++ c.drop (off + q)] ++ es.drop (k + 1)) (hK : K ⟨σ.sl, (n, .vec tt sz es2 fl) :: σ.mem, σ.nx⟩) : OpX P N o σ K := by
  refine ⟨fun _ => ?_⟩
  subst hes
  have hsz := Nat.eq_of_beq_eq_true hsz
  have h0 : 0 < q := by simpa using h0
  have hle := Nat.le_of_ble_eq_true hle
  obtain ⟨u, i, ht⟩ := tyOf_ok (hti _ _ ht)
  intro κ g a w hst next Q hn
  obtain ⟨q1, q2, q3, q4, q5⟩ := cellsA_ok hc (ρ_ok hst.sl hy) (ρ_lt hst.ok hy)
  obtain rfl := allD_ok hl
  simp only [List.length_map] at q2 q3 q5
  have hx' := ρ_ok hst.sl hx
  generalize ha : a.eval x = p at hx'
  cases hx' with | vq _ _ _ _ hh => ?_
  have hdup := hst.inv.dup hm
  obtain ⟨hkl, hkc⟩ := List.getElem?_eq_some_iff.1 hk
  obtain ⟨v1, v2, v3⟩ := (hst.inv.obs n _ hm)
  obtain ⟨arr, e1, e2, e3, e4, e5, e6, e7⟩ := v3 hh
  have hcl : c.length = sz := by rw [← hkc]; exact v1 _ (List.getElem_mem hkl)
  have hb : (k + 1) * sz ≤ g.cp n := Nat.le_trans (Nat.mul_le_mul_right _ hkl) e3
  rw [Nat.add_mul, Nat.one_mul] at hb
  have hone : ∀ v ∈ (a.eval y).cells.toList, v.oneCell' = true := fun v hv => by
    obtain ⟨j, hj, rfl⟩ := List.mem_iff_getElem.1 hv
    have hj' : j < l.length := by simp at hj; omega
    have := q5 j hj'
    simp only [List.getElem_map] at this
    have := this.one rfl
    simpa [Array.getD, show j < (a.eval y).cells.size by simpa using hj] using this
  have hst' := run_storeCells_at P (g.blk n) (g.hi n + k * sz + off) tt (a.eval y).cells.toList 0 arr w e1 (by simp; omega) hone
  simp only [Nat.add_zero, Array.length_toList] at hst'
  have hr : (execOp a.eval o).run P w = .ok .skip (w.setRow (g.blk n) (arr.toList.take (g.hi n + k * sz + off) ++ (a.eval y).cells.toList ++ arr.toList.drop (g.hi n + k * sz + off + (a.eval y).cells.size)).toArray) := by
    simp only [execOp, hop, ha, Instr.storeAt, Instr.sureAddr, storeVar, Sem.run_bind, Sem.run_pure, Result.andThen_ok, run_sizeOf' ht.info, ht.size, Sem.run_ite]
    rw [if_neg (by omega), hst']
    rfl
  refine wp_skipped hr (hn g _ _ _ hK ?_)
  rw [hno]
  have hnl : (c.take off ++ l ++ c.drop (off + q)).length = sz := by simp; omega
  have hlen2 : (es.take k ++ [c.take off ++ l ++ c.drop (off + q)] ++ es.drop (k + 1)).length = es.length := by simp; omega
  refine hst.vecPut hm (hdup.vecWrite hh e1 (by simp; omega) (fun z hz => ?_) (by rw [hlen2]; exact e3) (fun q' hq' j hj => ?_) (fun hf => by rw [hlen2]; exact e6 hf) fun j hj => ?_)
  · rcases List.mem_append.1 hz with h | h
    · rcases List.mem_append.1 h with h | h
      · exact v1 _ (List.mem_of_mem_take h)
      · rw [List.mem_singleton.1 h]; exact hnl
    · exact v1 _ (List.mem_of_mem_drop h)
  · have hq2 : q' < es.length := by rw [← hlen2]; exact hq'
    have hmq : q' * sz + sz ≤ es.length * sz := by
      have : (q' + 1) * sz ≤ es.length * sz := Nat.mul_le_mul_right _ (by omega)
      rw [Nat.add_mul] at this; omega
    by_cases hqk : q' = k
    · subst hqk
      have hge : (es.take q' ++ [c.take off ++ l ++ c.drop (off + q)] ++ es.drop (q' + 1))[q'] = c.take off ++ l ++ c.drop (off + q) := by
        rw [List.getElem_append_left (by simp; omega), List.getElem_append_right (by simp; omega)]
        simp [show min q' es.length = q' by omega]
      have hj' : j < sz := by rw [hge, hnl] at hj; exact hj
      rw [getD_splice _ _ _ _ (by omega) (by omega)]
      by_cases h1 : j < off
      · rw [if_neg (by omega)]
        have := e4 q' hq2 j (by rw [hkc, hcl]; exact hj')
        have e : (es.take q' ++ [c.take off ++ l ++ c.drop (off + q)] ++ es.drop (q' + 1))[q'][j] = es[q'][j]'(by rw [hkc, hcl]; exact hj') := by
          simp only [hge, hkc]
          rw [List.getElem_append_left (by simp; omega), List.getElem_append_left (by simp; omega), List.getElem_take]
        rw [e]; exact this
      · by_cases h2 : j < off + q
        · rw [if_pos (by omega)]
          have e : (es.take q' ++ [c.take off ++ l ++ c.drop (off + q)] ++ es.drop (q' + 1))[q'][j] = l[j - off]'(by omega) := by
            simp only [hge]
            rw [List.getElem_append_left (by simp; omega), List.getElem_append_right (by simp; omega)]
            simp [show min off c.length = off by omega]
          rw [e]
          have := q5 (j - off) (by omega)
          simp only [List.getElem_map] at this
          rw [show g.hi n + q' * sz + j - (g.hi n + q' * sz + off) = j - off by omega]
          cases this with | d _ _ h => exact h
        · rw [if_neg (by omega)]
          have := e4 q' hq2 j (by rw [hkc, hcl]; exact hj')
          have e : (es.take q' ++ [c.take off ++ l ++ c.drop (off + q)] ++ es.drop (q' + 1))[q'][j] = es[q'][j]'(by rw [hkc, hcl]; exact hj') := by
            simp only [hge, hkc]
            rw [List.getElem_append_right (by simp; omega), List.getElem_drop]
            have : off + q + (j - (List.take off c ++ l).length) = j := by simp; omega
            simp only [this]
          rw [e]; exact this
    · have hge : (es.take k ++ [c.take off ++ l ++ c.drop (off + q)] ++ es.drop (k + 1))[q'] = es[q'] := by
        by_cases h1 : q' < k
        · rw [List.getElem_append_left (by simp; omega), List.getElem_append_left (by simp; omega), List.getElem_take]
        · rw [List.getElem_append_right (by simp; omega), List.getElem_drop]
          have : k + 1 + (q' - (es.take k ++ [c.take off ++ l ++ c.drop (off + q)]).length) = q' := by simp; omega
          simp only [this]
      have hj' : j < sz := by
        have : (es.take k ++ [c.take off ++ l ++ c.drop (off + q)] ++ es.drop (k + 1))[q'].length = sz := by rw [hge]; exact v1 _ (List.getElem_mem hq2)
        omega
      have := e4 q' hq2 j (by rw [← hge]; exact hj)
      rw [getD_splice _ _ _ _ (by omega) (by omega), if_neg (by
        rcases Nat.lt_or_gt_of_ne hqk with h | h
        · have : (q' + 1) * sz ≤ k * sz := Nat.mul_le_mul_right _ h
          rw [Nat.add_mul] at this; omega
        · have : (k + 1) * sz ≤ q' * sz := Nat.mul_le_mul_right _ h
          rw [Nat.add_mul] at this; omega)]
      simpa only [hge] using this
  · rw [getD_splice _ _ _ _ (by omega) (by omega)]
    by_cases hin : g.hi n + k * sz + off ≤ g.hi n + j ∧ g.hi n + j < g.hi n + k * sz + off + (a.eval y).cells.size
    · rw [if_pos hin]
      have hq : g.hi n + j - (g.hi n + k * sz + off) < (a.eval y).cells.size := by omega
      rw [Array.getD, dif_pos hq]
      exact hone _ (by simp)
    · rw [if_neg hin]; exact e7 j hj
end
end Go.Sy

/- Operations whose end is said weaker. Conditions: none. -/
namespace Go.Sy
set_option linter.unusedVariables false
variable {P : Program} {ti : Nat → Option Ty} {N : Nat} {σ : S} {o : Oper} {K : S → Prop}
theorem OpOK.post (h : OpOK P N o σ fun s => ∃ τ, Wk N s τ ∧ K τ) : OpOK P N o σ K := fun κ g a w hst next Q hn => h κ g a w hst next Q fun g' σ' a' w' ⟨τ, hw, hk⟩ hst' => by
  obtain ⟨g2, h2⟩ := hw.run _ _ _ _ hst'
  exact hn g2 τ a' w' hk h2
theorem YieldI.post {n : Nat} {l : List AV} (h : YieldI P N o σ n l fun s => ∃ τ, Wk N s τ ∧ K τ) : YieldI P N o σ n l K := ⟨fun hf => OpOK.post (h.run hf)⟩
theorem CallI.post {f : Nat} {l : List AV} (h : CallI P N o σ f l fun s => ∃ τ, Wk N s τ ∧ K τ) : CallI P N o σ f l K := ⟨fun hf => OpOK.post (h.run hf)⟩
/-- A range over a function, its end said weaker. -/
theorem RangeS.introW {f N' : Nat} {rs : List ResultVar} {c asg body : Code} {gop : Operand} {ps : Array Tmp} {first cap : List AV} {Q : Exit → S → Prop} (hti : TiOK P ti) (hf : FnI P f N' rs c) (hg : ρ σ.sl gop = some (.fn (.func f) first cap)) (hlen : Nat.ble (first.length + 1 + cap.length) N' = true)
    (h : vc P ti N' c (fun e υ => ∃ τ, Wk N' υ τ ∧ finR ti rs σ.nx (σ.nx + 1) Q e τ) ⟨idx 0 (first ++ [.yld (σ.nx + 1)] ++ cap), (σ.nx + 1, .loop σ.nx ps asg body .ready none) :: (σ.nx, .frame (N + 1) σ.sl) :: σ.mem, σ.nx + 2⟩) : RangeS P ti N gop ps asg body Q σ := RangeS.introG hti hf hg hlen (fun _ υ ⟨τ, hw, hq⟩ => ⟨τ, hw.run, hq⟩) h
theorem OpOK.wk {τ : S} (hw : Wk N σ τ) (h : OpOK P N o τ K) : OpOK P N o σ K := fun κ g a w hst next Q hn => by
  obtain ⟨g', h'⟩ := hw.run κ g a w hst
  exact h κ g' a w h' next Q hn
/-- A call, its state said weaker ahead of it. -/
theorem CallI.wk {τ : S} {f : Nat} {l l' : List AV} (hw : Wk N σ τ) (hc : ∃ x args ats first cap l2, o.op = .call ⟨.value x, args, ats⟩ ∧ ρ τ.sl x = some (.fn (.func f) first cap) ∧ argsA (ρ τ.sl) args.toList = some l2 ∧ l' = first ++ l2 ++ cap) (h : CallI P N o τ f l' K) : CallI P N o σ f l K :=
  ⟨fun hf => OpOK.wk hw (h.run ⟨hc, hf.dst⟩)⟩
/-- Slots, one of which shows a variable's part as it is. -/
def MsV (n size : Nat) (c : List AV) (u v : AV) : Prop := u = v ∨ ∃ sz off len cap es, u = .ms sz n off len cap ∧ v = .d (.fs sz es) ∧ off + len * sz ≤ size ∧ es.length = len ∧ (∀ x ∈ es, x.length = sz) ∧ (c.drop off).take (len * sz) = es.flatten.map AV.d
/-- Slot by slot. -/
def MsL (n size : Nat) (c : List AV) (sl : List (Nat × AV)) : List (Nat × AV) → Prop
  | [] => True
  | (k, v) :: t => (∃ u, look k sl = some u ∧ MsV n size c u v) ∧ MsL n size c sl t
theorem MsL.at {n size : Nat} {c : List AV} {sl : List (Nat × AV)} : ∀ {l : List (Nat × AV)}, MsL n size c sl l → ∀ k v, look k l = some v → ∃ u, look k sl = some u ∧ MsV n size c u v
  | (a, b) :: t, h, k, v, hk => by
    rw [look_cons] at hk
    by_cases hka : k = a
    · subst hka
      rw [if_pos rfl] at hk
      obtain rfl := Option.some.inj hk
      exact h.1
    · rw [if_neg hka] at hk
      exact MsL.at h.2 k v hk
def MsM (n : Nat) (mem : List (Nat × Ob)) : List (Nat × Ob) → Prop
  | [] => True
  | (k, v) :: t => ((!Nat.beq k n) = true ∧ look k mem = some v) ∧ MsM n mem t
theorem MsM.at {n : Nat} {mem : List (Nat × Ob)} : ∀ {l : List (Nat × Ob)}, MsM n mem l → ∀ k v, look k l = some v → k ≠ n ∧ look k mem = some v
  | (a, b) :: t, h, k, v, hk => by
    rw [look_cons] at hk
    by_cases hka : k = a
    · subst hka
      rw [if_pos rfl] at hk
      obtain rfl := Option.some.inj hk
      refine ⟨fun e => ?_, h.1.2⟩
      have := h.1.1
      rw [e, Nat.beq_refl] at this; cases this
    · rw [if_neg hka] at hk
      exact MsM.at h.2 k v hk
theorem MsV.now {n size : Nat} {c : List AV} {u : AV} : MsV n size c u u := .inl rfl
end Go.Sy

/- A call by a contract, its last argument the constant nil: an open slice without a block. Conditions: none. -/
namespace Go.Sy
set_option linter.unusedVariables false
variable {P : Program} {ti : Nat → Option Ty} {N : Nat} {σ : S} {o : Oper} {K : S → Prop}
end Go.Sy

/- A variable given up, its address frozen. Conditions: none. -/
namespace Go.Sy
set_option linter.unusedVariables false
variable {P : Program} {ti : Nat → Option Ty} {N : Nat} {σ : S} {o : Oper} {K : S → Prop}
def MpV (n size : Nat) (c : List AV) (u v : AV) : Prop := u = v ∨ ∃ ds : List D, u = .ptr n 0 ∧ v = .d (.fp size ds) ∧ c = ds.map AV.d
/-- A variable is given up: its address is frozen. -/
theorem Wk.frzP {τ : S} {n size : Nat} {c : List AV} (hm : look n σ.mem = some (.cells size c)) (hs : ∀ k v, look k τ.sl = some v → ∃ u, look k σ.sl = some u ∧ MpV n size c u v)
    (hmem : ∀ k ob, look k τ.mem = some ob → k ≠ n ∧ look k σ.mem = some ob) (hok : τ.ok = true) : Wk N σ τ := by
  refine ⟨fun κ g a w hst => ?_⟩
  obtain ⟨arr, T, e1, e2, e3, e4, e5, e6⟩ := hst.inv.obs n _ hm
  have hon : On g σ.mem n := by unfold On; rw [hm]; trivial
  have f1 : ∀ b o x, g.F b o = some x → frzF g n size arr b o = some x := fun b o x hx => by
    unfold frzF
    by_cases hb : b = g.blk n
    · subst hb; rw [e6] at hx; cases hx
    · rw [if_neg hb]; exact hx
  have f4 : ∀ b o, b ≠ g.blk n → g.F b o = none → frzF g n size arr b o = none := fun b o hb hx => by unfold frzF; rw [if_neg hb]; exact hx
  have hE : ∀ M, Ext M g { g with F := frzF g n size arr } := fun M => ⟨f1, fun _ _ => rfl, fun _ _ => rfl, fun _ _ => rfl, fun _ _ => rfl⟩
  have on : ∀ k, On { g with F := frzF g n size arr } τ.mem k → k ≠ n ∧ On g σ.mem k := fun k h => by
    unfold On at h ⊢
    cases hl : look k τ.mem with
    | none => rw [hl] at h; exact h.elim
    | some ob =>
      rw [hl] at h
      obtain ⟨h1, h2⟩ := hmem k ob hl
      rw [h2]
      exact ⟨h1, h⟩
  have hF : ∀ k, On { g with F := frzF g n size arr } τ.mem k → ∀ o, g.F (g.blk k) o = none → frzF g n size arr (g.blk k) o = none := fun k h o hx => by
    obtain ⟨h1, h2⟩ := on k h
    exact f4 _ _ (hst.inv.inj k n h1 h2 hon) hx
  refine ⟨{ g with F := frzF g n size arr }, hst.size, hst.defers, fun k v hk => ?_, ⟨fun b o x hx => ?_, fun k ob hk => ?_, fun k m hkm h h' => hst.inv.inj k m hkm (on k h).2 (on m h').2, hst.inv.size, hst.inv.pres, fun k h => hst.inv.own k (on k h).2, fun b o v h => f1 _ _ _ (hst.inv.f0 b o v h), fun b o v h => ?_, hst.inv.os, hst.inv.tape, hst.inv.output, hst.inv.dfr⟩, hok⟩
  · obtain ⟨u, hu, hz⟩ := hs k v hk
    rcases hz with rfl | ⟨ds, rfl, rfl, hd⟩
    · exact (hst.sl k u hu).ext (hE σ.nx) (S.ok_sl hst.ok hu)
    · have hv := hst.sl k _ hu
      generalize a.tmps.getD k undef = q at hv
      cases hv with | ptr _ _ => ?_
      refine .d _ _ ?_
      have hdl : ds.length = size := by rw [← e3, hd, List.length_map]
      refine .fp _ _ _ _ (fun j => arr.getD j undef) hdl (fun j hj => ?_) fun j hj => ?_
      · show frzF g n size arr (g.blk n) (0 + j) = _
        unfold frzF
        rw [Nat.zero_add, if_pos rfl, if_pos hj]
      · have hlt : j < c.length := by omega
        have hce : c[j] = .d ds[j] := by subst hd; rw [List.getElem_map]
        have hr := e5 _ hlt
        rw [hce] at hr
        cases hr with | d _ _ hr => exact hr.mono f1
  · have hx : frzF g n size arr b o = some x := hx
    unfold frzF at hx
    by_cases hb : b = g.blk n
    · subst hb
      rw [if_pos rfl] at hx
      by_cases ho : o < size
      · rw [if_pos ho] at hx
        obtain rfl := Option.some.inj hx
        simp [World.cell?, e1, Array.getD, show o < arr.size by omega]
      · rw [if_neg ho] at hx; cases hx
    · rw [if_neg hb] at hx; exact hst.inv.frz b o x hx
  · obtain ⟨hkn, hob'⟩ := hmem k ob hk
    have hob := hst.inv.obs k ob hob'
    have hlt := (S.ok_mem hst.ok hob').2
    cases ob with
    | cells size c =>
      obtain ⟨arr, T, e1, e2, e3, e4, e5, e6⟩ := hob
      simp only [Ob.lt, List.all_eq_true] at hlt
      exact ⟨arr, T, e1, e2, e3, e4, fun j hj => (e5 j hj).ext1 (hE σ.nx) (hlt _ (List.getElem_mem hj)), fun o => hF k (by unfold On; rw [hk]; trivial) o (e6 o)⟩
    | tail t b =>
      refine ⟨fun hh => ?_, hob.2⟩
      obtain ⟨arr, u, e1, e2, e3, e4⟩ := hob.1 hh
      exact ⟨arr, u, e1, e2, e3, fun o ho => hF k (by unfold On; rw [hk]; exact hh) o (e4 o ho)⟩
    | vec t' sz' es' f' => exact VecOK.mono hob f1 rfl rfl rfl rfl (fun _ => rfl) (fun hh o ho => hF k (by unfold On; rw [hk]; exact hh) o ho)
    | tag m t' => exact hob
    | frame sz' l =>
      simp only [Ob.lt, List.all_eq_true] at hlt
      exact ⟨hob.1, fun s v hs => (hob.2 s v hs).ext (hE σ.nx) (hlt _ (look_mem hs))⟩
    | loop k' ps asg body st pd => exact hob
  · have h : frzF g n size arr b o = some v := h
    unfold frzF at h
    by_cases hb : b = g.blk n
    · subst hb; exact .inr (hst.inv.own n hon)
    · rw [if_neg hb] at h; exact hst.inv.fnew b o v h
/-- Slot by slot. -/
def MpL (n size : Nat) (c : List AV) (sl : List (Nat × AV)) : List (Nat × AV) → Prop
  | [] => True
  | (k, v) :: t => (∃ u, look k sl = some u ∧ MpV n size c u v) ∧ MpL n size c sl t
theorem MpL.at {n size : Nat} {c : List AV} {sl : List (Nat × AV)} : ∀ {l : List (Nat × AV)}, MpL n size c sl l → ∀ k v, look k l = some v → ∃ u, look k sl = some u ∧ MpV n size c u v
  | (a, b) :: t, h, k, v, hk => by
    rw [look_cons] at hk
    by_cases hka : k = a
    · subst hka
      rw [if_pos rfl] at hk
      obtain rfl := Option.some.inj hk
      exact h.1
    · rw [if_neg hka] at hk
      exact MpL.at h.2 k v hk
theorem Wk.frzPL {τ : S} (n size : Nat) (c : List AV) (hm : look n σ.mem = some (.cells size c)) (hs : MpL n size c σ.sl τ.sl) (hmem : MsM n σ.mem τ.mem) (hok : τ.ok = true) : Wk N σ τ := Wk.frzP hm hs.at hmem.at hok
theorem MpV.now {n size : Nat} {c : List AV} {u : AV} : MpV n size c u u := .inl rfl
end Go.Sy
