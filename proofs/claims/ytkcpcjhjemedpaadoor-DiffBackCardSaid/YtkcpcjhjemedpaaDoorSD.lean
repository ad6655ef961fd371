/- A computing verification layer for data, proved sound over the library: what a body comes to, by its literal code. Conditions: none. -/
import Derived.Test.YtkcpcjhjemedpaaDoorSC
import Derived.OpenShut
import Derived.Deep.Slices
import Derived.ChangeSame
import Derived.Carry
import Derived.Below
import Derived.WalkKit
import Derived.ProofKit
import Derived.Deep.DeepHandedRow
import Derived.Lib.LaidTab
import Derived.SevenTiedAt
set_option linter.all false
/- A region that draws its order: any order. Conditions: none. -/
namespace Go.Sy
set_option linter.unusedVariables false
set_option linter.unusedSimpArgs false

section
variable {P : Program} {ti : Nat → Option Ty} {N : Nat}

theorem freshD_spec {d : Nat} : ∀ {l : List Oper} {i : Nat}, freshD d l = true → gslot l i ≠ some d
  | [], i, _ => by simp [gslot]
  | o :: t, i, h => by
    simp only [freshD, Bool.and_eq_true] at h
    cases i with
    | zero =>
      rw [gslot_zero]
      intro he
      rw [he] at h
      simp at h
    | succ i => rw [gslot_succ]; exact freshD_spec h.2

theorem tiedTo_spec {all : List Oper} {ms : List Nat} {j d : Nat} : ∀ {l : List Oper} {i0 i : Nat} {o : Oper}, tiedTo all ms j d i0 l = true → l[i]? = some o → d ∈ reads all o →
    (j < i0 + i ∧ (ms.getD (i0 + i) 0).testBit j = true) ∨ (i0 + i < j ∧ (ms.getD j 0).testBit (i0 + i) = true)
  | [], i0, i, o, _, ho, _ => by simp at ho
  | o' :: t, i0, i, o, h, ho, hd => by
    simp only [tiedTo, Bool.and_eq_true, Bool.or_eq_true] at h
    cases i with
    | zero =>
      simp only [List.getElem?_cons_zero, Option.some.injEq] at ho
      subst ho
      rcases h.1 with h1 | h1
      · rw [Bool.not_eq_true'] at h1
        rw [memN_iff.2 hd] at h1
        cases h1
      · simp only [Nat.add_zero]
        cases hb : Nat.blt j i0 with
        | true => rw [hb] at h1; exact .inl ⟨by simpa using hb, h1⟩
        | false =>
          rw [hb] at h1
          simp only [cond_false] at h1
          cases hb2 : Nat.blt i0 j with
          | true => rw [hb2] at h1; exact .inr ⟨by simpa using hb2, h1⟩
          | false => rw [hb2] at h1; cases h1
    | succ i =>
      have := tiedTo_spec h.2 (i := i) (by simpa using ho) hd
      rw [show i0 + 1 + i = i0 + (i + 1) by omega] at this
      exact this

theorem writersOK_spec {all pre : List Oper} {ms : List Nat} : ∀ {l : List Oper} {j0 : Nat}, writersOK all pre ms j0 l = true → (∀ i j d, gslot l i = some d → gslot l j = some d → i = j) ∧
    ∀ j d, gslot l j = some d → tiedTo all ms (j0 + j) d 0 pre = true
  | [], j0, _ => ⟨fun i j d h => by simp [gslot] at h, fun j d h => by simp [gslot] at h⟩
  | o :: t, j0, h => by
    simp only [writersOK, Bool.and_eq_true] at h
    obtain ⟨h1, h2⟩ := h
    split at h1
    · rename_i d hd
      simp only [Bool.and_eq_true] at h1
      obtain ⟨k1, k2⟩ := writersOK_spec h2
      refine ⟨fun i j e hi hj => ?_, fun j e he => ?_⟩
      · cases i with
        | zero =>
          cases j with
          | zero => rfl
          | succ j =>
            rw [gslot_zero] at hi; rw [gslot_succ] at hj
            have : d = e := Option.some.inj (hd.symm.trans hi)
            subst this
            exact (freshD_spec h1.1 hj).elim
        | succ i =>
          cases j with
          | zero =>
            rw [gslot_zero] at hj; rw [gslot_succ] at hi
            have : d = e := Option.some.inj (hd.symm.trans hj)
            subst this
            exact (freshD_spec h1.1 hi).elim
          | succ j =>
            rw [gslot_succ] at hi hj
            rw [k1 i j e hi hj]
      · cases j with
        | zero =>
          rw [gslot_zero] at he
          have : d = e := Option.some.inj (hd.symm.trans he)
          subst this
          exact h1.2
        | succ j =>
          rw [gslot_succ] at he
          have := k2 j e he
          rw [show j0 + 1 + j = j0 + (j + 1) by omega] at this
          exact this
    · cases h1

theorem full_spec {m i : Nat} (h : Nat.land m (2 ^ i - 1) = 2 ^ i - 1) {j : Nat} (hj : j < i) : m.testBit j = true := by
  have : (m &&& (2 ^ i - 1)).testBit j = (2 ^ i - 1).testBit j := by
    show (Nat.land m (2 ^ i - 1)).testBit j = _
    rw [h]
  rw [Nat.testBit_and, Nat.testBit_two_pow_sub_one] at this
  simp [hj] at this
  exact this

theorem forced_spec {ms : List Nat} {n : Nat} : ∀ {k i : Nat}, forced ms n i k = true → ∀ i', i ≤ i' → i' < i + k → ∀ j, j < i' → (ms.getD i' 0).testBit j = true
  | 0, i, _, i', h1, h2 => by omega
  | k + 1, i, h, i', h1, h2 => by
    simp only [forced, Bool.and_eq_true] at h
    intro j hj
    rcases Nat.lt_or_ge i i' with hii | hii
    · exact forced_spec h.2 i' hii (by omega) j hj
    · have : i' = i := by omega
      subst this
      exact full_spec (Nat.eq_of_beq_eq_true h.1) hj

/-- One operation out of the text's order. -/
theorem evOps_step (hti : TiOK P ti) {ops : List Oper} {K : S → Prop} {o : Oper} {r : List Oper} {i : Nat} {σ : S} {κ : Ctx} {g : Gh} {a : Act} {w : World} {Q : Exit → Act → World → Prop} {next : Act → World → Prop} (ho : ops[i]? = some o) (h : evOps P ti N ops (o :: r) σ K) (hst : St κ N g σ a w)
    (hn : ∀ g' σ' a' w', evOps P ti N ops r σ' K → St κ N g' σ' a' w' → next a' w') : wpOpIn (wd κ.rd) 0 P ops.toArray Q i next a w := by
  have ho' : ops.toArray[i]? = some o := by simpa using ho
  have run : ∀ {σ : S}, evOp P ti N o σ (fun σ' => evOps P ti N ops r σ' K) → St κ N g σ a w → o.wpIn (wd κ.rd) 0 P a w next Q := fun h hst => evOp_sound hti h κ g a w hst _ Q hn
  have yl : ∀ {j d : Nat} {b : Bool}, gslot ops j = some d → look d σ.sl = some (.d (.bl b)) → yielded ops.toArray a.tmps j = some b := fun hd hb => yielded_of hst (by simpa using hd) hb
  simp only [wpOpIn, ho']
  simp only [evOps] at h
  split at h
  · rename_i hg
    rw [if_pos (wanted_none hg)]
    exact run h hst
  · rename_i j hg
    split at h
    case h_2 => exact h.elim
    rename_i d hd
    split at h
    case h_3 => exact h.elim
    case h_2 => rename_i hb; rw [wanted_undef hg (yielded_undef (hst.sl _ _ hb) hd), if_neg (by decide)]; exact ⟨fun _ _ => trivial, hn _ _ _ _ h hst.skip⟩
    rename_i b hb
    rw [wanted_some hg (yl hd hb)]
    cases b with
    | true => rw [if_pos (by decide)]; exact run (h.t rfl) (hst.known hb rfl)
    | false => rw [if_neg (by decide)]; exact ⟨fun _ _ => trivial, hn _ _ _ _ (h.f rfl) (hst.known hb rfl).skip⟩
  · rename_i j hg
    split at h
    case h_2 => exact h.elim
    rename_i d hd
    split at h
    case h_3 => exact h.elim
    case h_2 => rename_i hb; rw [wanted_undef hg (yielded_undef (hst.sl _ _ hb) hd), if_neg (by decide)]; exact ⟨fun _ _ => trivial, hn _ _ _ _ h hst.skip⟩
    rename_i b hb
    rw [wanted_some hg (yl hd hb)]
    cases b with
    | true => rw [if_neg (by decide)]; exact ⟨fun _ _ => trivial, hn _ _ _ _ (h.t rfl) (hst.known hb rfl).skip⟩
    | false => rw [if_pos (by decide)]; exact run (h.f rfl) (hst.known hb rfl)

theorem getD_true_iff {l : Array Bool} {i : Nat} (hi : i < l.size) : l.getD i true = l.getD i false := by simp [Array.getD, hi]

theorem getD_set_self {l : Array Bool} {i : Nat} (d : Bool) (hi : i < l.size) : (l.setIfInBounds i true).getD i d = true := by simp [Array.getD, hi]

/-- The forced end. -/
theorem any_tail (hti : TiOK P ti) {ops : List Oper} {ms : List Nat} {K : S → Prop} {Q : Exit → Act → World → Prop} {κ : Ctx} (hms : ancs [] 0 ops = some ms) {m : Nat} (hf : ∀ i', m ≤ i' → i' < ops.length → ∀ j, j < i' → (ms.getD i' 0).testBit j = true)
    (hQ : ∀ g' σ' a' w', K σ' → St κ N g' σ' a' w' → Q .normal a' w') : ∀ (r : List Oper) (i : Nat) (listed : Array Bool) (σ : S) (g : Gh) (a : Act) (w : World), m ≤ i → i + r.length = ops.length → (∀ j, r[j]? = ops[i + j]?) → listed.size = ops.length →
      (∀ k, k < i → listed.getD k false = true) → (∀ k, i ≤ k → k < ops.length → listed.getD k true = false) → evOps P ti N ops r σ K → St κ N g σ a w → wpAnyIn (wd κ.rd) 0 P .any ops.toArray Q r.length listed a w
  | [], i, listed, σ, g, a, w, hmi, hn, hr, hsz, h1, h2, h, hst => by
    refine ⟨?_, hQ g σ a w h hst⟩
    rw [List.eq_nil_iff_forall_not_mem]
    intro j hj
    obtain ⟨k1, o, k2, k3⟩ := mem_ready.1 hj
    have hj' : j < ops.length := by
      have := (Array.getElem?_eq_some_iff.1 k2).1
      simpa using this
    have := h1 j (by simp at hn; omega)
    rw [getD_true_iff (by omega)] at k1
    rw [this] at k1
    cases k1
  | o :: r, i, listed, σ, g, a, w, hmi, hn, hr, hsz, h1, h2, h, hst => by
    have hil : i < ops.length := by simp at hn; omega
    have ho : ops[i]? = some o := by have := hr 0; simpa using this.symm
    obtain ⟨⟨r', hr', hrl⟩, hs⟩ := ancs_spec ops ops [] 0 ms hms rfl (fun j => by simp)
    have hclosed : ∀ k o', ops[k]? = some o' → (listed.getD k false = true) → ∀ e ∈ o'.after, Region.binds .any e = true → listed.getD e.on false = true := fun k o' ho' hk e he hb => by
      have hk' : k < i := by
        rcases Nat.lt_or_ge k i with h' | h'
        · exact h'
        · have hkl := (List.getElem?_eq_some_iff.1 ho').1
          have := h2 k h' hkl
          rw [getD_true_iff (by omega), hk] at this
          cases this
      have := (anc1_spec (hs k o' (Nat.zero_le _) ho')).1 e (by simpa using he) hb
      exact h1 _ (by omega)
    refine ⟨fun h0 => ?_, fun k hk => ?_⟩
    · have : i ∈ Region.ready .any ops.toArray listed := by
        rw [mem_ready]
        refine ⟨h2 i (Nat.le_refl _) hil, o, by simpa using ho, fun e he hb => h1 _ ?_⟩
        exact (anc1_spec (hs i o (Nat.zero_le _) ho)).1 e (by simpa using he) hb
      rw [h0] at this
      cases this
    · obtain ⟨k1, o', k2, k3⟩ := mem_ready.1 hk
      have k2' : ops[k]? = some o' := by simpa using k2
      have hkl := (List.getElem?_eq_some_iff.1 k2').1
      have hki : k = i := by
        rcases Nat.lt_trichotomy k i with h' | h' | h'
        · have := h1 k h'
          rw [getD_true_iff (by omega)] at k1
          rw [this] at k1
          cases k1
        · exact h'
        · have := anc_closed hms (L := fun k => listed.getD k false = true) hclosed (k + 1) k (Nat.lt_succ_self _) o' k2' k3 i (hf k (by omega) hkl i h')
          have h0 := h2 i (Nat.le_refl _) hil
          rw [getD_true_iff (by omega), this] at h0
          cases h0
      subst hki
      refine evOps_step hti ho h hst fun g' σ' a' w' hK hst' => ?_
      refine any_tail hti hms hf hQ r (k + 1) _ σ' g' a' w' (by omega) (by simp at hn ⊢; omega) (fun j => by have := hr (j + 1); rw [show k + 1 + j = k + (j + 1) by omega]; simpa using this) (by simp [hsz]) (fun j hj => ?_) (fun j hj hj' => ?_) hK hst'
      · by_cases hjk : k = j
        · subst hjk; exact getD_set_self _ (by omega)
        · rw [getD_set_ne false hjk]; exact h1 j (by omega)
      · rw [getD_set_ne true (by omega)]
        exact h2 j (by omega) hj'
end
end Go.Sy

/- A region that draws its order: the pure part, in any order, then the forced end. Conditions: none. -/
namespace Go.Sy
set_option linter.unusedVariables false
set_option linter.unusedSimpArgs false

section
variable {P : Program} {ti : Nat → Option Ty} {N : Nat}

/-- What stands once some of the pure part has come up. -/
structure StP (κ : Ctx) (N : Nat) (pre : List Oper) (vs : List AV) (σ : S) (L : Nat → Prop) (g : Gh) (a : Act) (w : World) : Prop where
  size : a.tmps.size = N
  defers : a.defers = κ.df.map mark
  inv : Inv κ g σ.mem w
  new : ∀ i d, L i → gslot pre i = some d → AVR g (vs.getD i .junk) (a.tmps.getD d undef)
  old : ∀ k v, look k σ.sl = some v → (∀ i, L i → gslot pre i ≠ some k) → AVR g v (a.tmps.getD k undef)

theorem yielded_at {all : List Oper} {j d : Nat} {b : Bool} {g : Gh} {a : Act} (h : AVR g (.d (.bl b)) (a.tmps.getD d undef)) (hg : gslot all j = some d) : yielded all.toArray a.tmps j = some b := by
  have hv : a.tmps.getD d undef = .bool b := by generalize a.tmps.getD d undef = q at h; cases h with | d _ _ h => cases h; rfl
  have hlt : d < a.tmps.size := by
    rcases Nat.lt_or_ge d a.tmps.size with h' | h'
    · exact h'
    · simp [Array.getD, Nat.not_lt.2 h', undef] at hv
  have hd' : a.tmps[d]? = some (.bool b) := by rw [arr_get _ hlt, hv]
  unfold gslot at hg
  unfold yielded
  have : all.toArray[j]? = all[j]? := by simp
  rw [this]
  cases hq : all[j]? with
  | none => rw [hq] at hg; cases hg
  | some q =>
    rw [hq] at hg
    simp only [Option.bind_some]
    have hg' : q.dst = some d := hg
    simp only [hg', Option.bind_some, hd']

theorem ρ_at {g : Gh} {sl : List (Nat × AV)} {a : Act} {x : Operand} {v : AV} (h : ∀ t, x = .tmp t → ∀ v, look t sl = some v → AVR g v (a.tmps.getD t undef)) (hx : ρ sl x = some v) : AVR g v (a.eval x) := by
  cases x with
  | tmp t => exact h t rfl v hx
  | const c => obtain rfl := Option.some.inj hx; exact ofConst_ok g c
  | global _ => cases hx
  | func f => obtain rfl := Option.some.inj hx; exact .fn _ _ _ _ _ rfl rfl (fun j hj => by cases hj) (fun j hj => by cases hj)

/-- An operation by what it leaves. -/
theorem wpOp_of_Yl {all : List Oper} {i : Nat} {o : Oper} {mem : List (Nat × Ob)} {nx : Nat} {sl : List (Nat × AV)} {v : AV} {κ : Ctx} {g : Gh} {a : Act} {w : World} {Q : Exit → Act → World → Prop} {next : Act → World → Prop} (ho : all[i]? = some o) (hy : Yl P all mem nx sl o v) (hi : Inv κ g mem w)
    (hr : ∀ t, t ∈ reads all o → ∀ v, look t sl = some v → AVR g v (a.tmps.getD t undef)) (hn : ∀ g' u w', Ext nx g g' → Inv κ g' mem w' → AVR g' v u → next (a.put o.dst u) w') : wpOpIn (wd κ.rd) 0 P all.toArray Q i next a w := by
  have ho' : all.toArray[i]? = some o := by simpa using ho
  have hops : ∀ x ∈ o.op.operands.toList, ∀ v, ρ sl x = some v → AVR g v (a.eval x) := fun x hx v hv => ρ_at (fun t ht v hl => hr t (by
    subst ht
    unfold reads
    exact List.mem_append_left _ (List.mem_filterMap.2 ⟨_, hx, rfl⟩)) v hl) hv
  simp only [wpOpIn, ho']
  unfold Yl at hy
  split at hy
  · rename_i hg
    rw [if_pos (wanted_none hg)]
    exact hy.2 κ g a w hi hops next Q hn
  · rename_i j c hg
    obtain ⟨e, h1, hy⟩ := hy
    have hre := hr e (by unfold reads; rw [hg]; exact List.mem_append_right _ (by simp [h1]))
    have skip : v = .tup [] → next (a.put o.dst undef) w := fun hv => by
      subst hv
      exact hn g undef w (.refl _ _) hi (.tup [] #[] rfl fun j hj => by cases hj)
    rcases hy with ⟨b, h2, h3, h4⟩ | ⟨h2, h3⟩
    · have hb := yielded_at (hre _ h2) h1
      rw [wanted_some hg hb]
      by_cases hbc : b = c
      · subst hbc
        rw [if_pos (by simp)]
        exact (h3 rfl).2 κ g a w hi hops next Q hn
      · rw [if_neg (by simpa using hbc)]
        exact ⟨fun _ _ => trivial, skip (h4 hbc)⟩
    · rw [wanted_undef hg (yielded_undef (hre _ h2) h1), if_neg (by decide)]
      exact ⟨fun _ _ => trivial, skip h3⟩

theorem exists_dec (p : Nat → Prop) (h : Prop) (a : (∃ i, p i) → h) (b : (∀ i, ¬ p i) → h) : h := by
  by_cases hp : ∃ i, p i
  · exact a hp
  · exact b fun i hi => hp ⟨i, hi⟩

theorem gslot_take {ops : List Oper} {m i : Nat} (hi : i < m) : gslot (ops.take m) i = gslot ops i := by
  unfold gslot
  rw [List.getElem?_take, if_pos hi]

theorem gslot_lt {ops : List Oper} {i d : Nat} (h : gslot ops i = some d) : i < ops.length := by
  unfold gslot at h
  split at h
  · rename_i o ho
    exact (List.getElem?_eq_some_iff.1 ho).1
  · cases h

theorem any_pre (hti : TiOK P ti) {ops : List Oper} {ms : List Nat} {K : S → Prop} {Q : Exit → Act → World → Prop} {κ : Ctx} {m : Nat} {σ σ' : S} {vs : List AV} (hms : ancs [] 0 ops = some ms) (hm : m ≤ ops.length) (hf : ∀ i', m ≤ i' → i' < ops.length → ∀ j, j < i' → (ms.getD i' 0).testBit j = true)
    (hw : writersOK ops (ops.take m) ms 0 (ops.take m) = true) (hok : σ.ok = true) (hok' : σ'.ok = true) (hmem : σ'.mem = σ.mem) (hnx : σ'.nx = σ.nx) (hch : chainP P ops σ.mem σ.nx N (ops.take m) vs σ.sl σ'.sl)
    (hQ : ∀ g' σ' a' w', K σ' → St κ N g' σ' a' w' → Q .normal a' w') (htail : evOps P ti N ops (ops.drop m) σ' K) : ∀ (c : Nat) (U : List Nat) (listed : Array Bool) (g : Gh) (a : Act) (w : World), U.length = c → U.Nodup → (∀ k, k ∈ U ↔ k < m ∧ listed.getD k true = false) → listed.size = ops.length →
      (∀ k, m ≤ k → k < ops.length → listed.getD k true = false) → (∀ k o, ops[k]? = some o → listed.getD k false = true → ∀ e ∈ o.after, Region.binds .any e = true → listed.getD e.on false = true) →
      StP κ N (ops.take m) vs σ (fun i => listed.getD i false = true) g a w → wpAnyIn (wd κ.rd) 0 P .any ops.toArray Q (c + (ops.length - m)) listed a w := by
  obtain ⟨huniq, htied⟩ := writersOK_spec hw
  obtain ⟨hlen, hend, hat⟩ := chain_knows _ _ _ _ hch huniq
  obtain ⟨⟨r', hr', hrl⟩, hs⟩ := ancs_spec ops ops [] 0 ms hms rfl (fun j => by simp)
  have hpl : (ops.take m).length = m := by simp [Nat.min_eq_left hm]
  intro c
  induction c with
  | zero =>
    intro U listed g a w hU hnd hmemU hsz h2 hcl hst
    have hU0 : U = [] := List.length_eq_zero_iff.1 hU
    subst hU0
    have h1 : ∀ k, k < m → listed.getD k false = true := fun k hk => by
      cases hq : listed.getD k false with
      | true => rfl
      | false => exact absurd ((hmemU k).2 ⟨hk, by rw [getD_true_iff (by omega)]; exact hq⟩) (by simp)
    have hst' : St κ N g σ' a w := by
      refine ⟨hst.size, hst.defers, fun k v hk => ?_, by rw [hmem]; exact hst.inv, hok'⟩
      refine exists_dec (fun i => i < m ∧ gslot (ops.take m) i = some k) _ (fun ⟨i, hi, hik⟩ => ?_) fun hno => ?_
      · have := hend.new i k (by omega) hik
        rw [hk] at this
        obtain rfl := Option.some.inj this
        exact hst.new i k (h1 i hi) hik
      · rw [hend.old k fun i hi he => hno i ⟨by omega, he⟩] at hk
        exact hst.old k v hk fun i _ he => hno i ⟨by have := gslot_lt he; omega, he⟩
    have := any_tail hti hms hf hQ (ops.drop m) m listed σ' g a w (Nat.le_refl _) (by simp; omega) (fun j => by simp) hsz h1 h2 htail hst'
    simpa using this
  | succ c ih =>
    intro U listed g a w hU hnd hmemU hsz h2 hcl hst
    rw [show c + 1 + (ops.length - m) = (c + (ops.length - m)) + 1 by omega]
    refine ⟨fun h0 => ?_, fun i hi => ?_⟩
    · have none : ∀ n k, k < n → k ∈ U → False := by
        intro n
        induction n with
        | zero => intro k h; omega
        | succ n ihn =>
          intro k hk hkU
          obtain ⟨hkm, hku⟩ := (hmemU k).1 hkU
          have hko : ops[k]? = some ops[k] := List.getElem?_eq_getElem (by omega)
          have : k ∈ Region.ready .any ops.toArray listed := by
            rw [mem_ready]
            refine ⟨hku, ops[k], by simpa using hko, fun e he hb => ?_⟩
            have hlt := (anc1_spec (hs k _ (Nat.zero_le _) hko)).1 e (by simpa using he) hb
            cases hq : listed.getD e.on false with
            | true => rfl
            | false => exact (ihn e.on (by omega) ((hmemU _).2 ⟨by omega, by rw [getD_true_iff (by omega)]; exact hq⟩)).elim
          rw [h0] at this
          cases this
      cases U with
      | nil => cases hU
      | cons u t => exact (none (u + 1) u (Nat.lt_succ_self _) List.mem_cons_self).elim
    · obtain ⟨k1, o, k2, k3⟩ := mem_ready.1 hi
      have ho : ops[i]? = some o := by simpa using k2
      have hil := (List.getElem?_eq_some_iff.1 ho).1
      have hun : listed.getD i false = false := by rw [← getD_true_iff (by omega)]; exact k1
      have hanc : ∀ j, (ms.getD i 0).testBit j = true → listed.getD j false = true := anc_closed hms (L := fun k => listed.getD k false = true) hcl (i + 1) i (Nat.lt_succ_self _) o ho k3
      have him : i < m := by
        rcases Nat.lt_or_ge i m with h' | h'
        · exact h'
        · exfalso
          cases U with
          | nil => cases hU
          | cons u t =>
            obtain ⟨q1, q2⟩ := (hmemU u).1 List.mem_cons_self
            have := hanc u (hf i h' hil u (by omega))
            rw [getD_true_iff (by omega), this] at q2
            cases q2
      have hop : (ops.take m)[i]? = some o := by rw [List.getElem?_take, if_pos him]; exact ho
      obtain ⟨slj, d, hk, hd, hdN, hvl, hy⟩ := hat i o hop
      have hslot : gslot (ops.take m) i = some d := by unfold gslot; rw [hop]; exact hd
      refine wpOp_of_Yl ho hy hst.inv (fun t ht v hv => ?_) fun g' u w' he hi' hu => ?_
      · refine exists_dec (fun j => j < i ∧ gslot (ops.take m) j = some t) _ (fun ⟨j, hj, hjt⟩ => ?_) fun hno => ?_
        · have := hk.new j t hj hjt
          rw [hv] at this
          obtain rfl := Option.some.inj this
          have htd := tiedTo_spec (htied j t hjt) hop ht
          simp only [Nat.zero_add] at htd
          rcases htd with ⟨_, hb⟩ | ⟨hlt, _⟩
          · exact hst.new j t (hanc j hb) hjt
          · omega
        · rw [hk.old t fun j hj hjt => hno j ⟨hj, hjt⟩] at hv
          refine hst.old t v hv fun j hj hjt => ?_
          have htd := tiedTo_spec (htied j t hjt) hop ht
          simp only [Nat.zero_add] at htd
          rcases htd with ⟨hlt, _⟩ | ⟨hlt, hb⟩
          · exact hno j ⟨hlt, hjt⟩
          · have hjm := gslot_lt hjt
            rw [hpl] at hjm
            have hjo : ops[j]? = some ops[j] := List.getElem?_eq_getElem (by omega)
            have := anc_closed hms (L := fun k => listed.getD k false = true) hcl (j + 1) j (Nat.lt_succ_self _) _ hjo (hcl j _ hjo hj) i hb
            rw [hun] at this
            cases this
      · have hlist : ∀ j, (listed.setIfInBounds i true).getD j false = true → j = i ∨ listed.getD j false = true := fun j hj => by
          by_cases hji : i = j
          · exact .inl hji.symm
          · rw [getD_set_ne false hji] at hj; exact .inr hj
        refine ih (U.erase i) _ g' _ w' (by rw [List.length_erase_of_mem ((hmemU i).2 ⟨him, k1⟩)]; omega) (hnd.erase i) (fun k => ?_) (by simp [hsz]) (fun k hk1 hk2 => ?_) (fun k o' ho' hk1 e he' hb => ?_) ?_
        · rw [hnd.mem_erase_iff, hmemU]
          by_cases hki : k = i
          · subst hki
            rw [getD_set_self _ (by omega)]
            simp
          · rw [getD_set_ne true (Ne.symm hki)]
            simp [hki]
        · rw [getD_set_ne true (by omega)]; exact h2 k hk1 hk2
        · rcases hlist k hk1 with rfl | hk1
          · rw [ho] at ho'
            obtain rfl := Option.some.inj ho'
            exact getD_set_true (k3 e he' hb)
          · exact getD_set_true (hcl k o' ho' hk1 e he' hb)
        · have hput : ∀ x, (a.put o.dst u).tmps.getD x undef = if x = d then u else a.tmps.getD x undef := fun x => by
            rw [hd, put_tmps, getD_set _ _ _ _ (by rw [hst.size]; exact hdN)]
          refine ⟨by rw [hd]; simp [put_tmps, hst.size], by rw [put_defers]; exact hst.defers, hi', fun j e hj hje => ?_, fun k v hk' hno => ?_⟩
          · rw [hput]
            by_cases hed : e = d
            · subst hed
              have := huniq j i e hje hslot
              subst this
              rw [if_pos rfl]; exact hu
            · rw [if_neg hed]
              rcases hlist j hj with rfl | hj'
              · rw [hslot] at hje
                exact (hed (Option.some.inj hje).symm).elim
              · have hjl : j < (ops.take m).length := gslot_lt hje
                obtain ⟨_, _, _, _, _, q, _⟩ := hat j _ (List.getElem?_eq_getElem hjl)
                exact (hst.new j e hj' hje).ext he q
          · rw [hput, if_neg (by
              rintro rfl
              exact hno i (getD_set_self _ (by omega)) hslot)]
            exact (hst.old k v hk' fun j hj => hno j (getD_set_true hj)).ext he (S.ok_sl hok hk')

theorem Inv.drew {κ : Ctx} {g : Gh} {mem : List (Nat × Ob)} {w : World} (h : Inv κ g mem w) (n : Nat) : Inv κ g mem { w with drawn := n } :=
  ⟨h.frz, h.obs, h.inj, h.size, h.pres, h.own, h.f0, h.fnew, h.os, h.tape, h.output, h.dfr⟩

/-- Where the forced end begins. -/
def cutFrom (ms : List Nat) : Nat → Nat
  | 0 => 0
  | k + 1 => bif Nat.beq (Nat.land (ms.getD k 0) (2 ^ k - 1)) (2 ^ k - 1) then cutFrom ms k else k + 1

def cut (ops : List Oper) : Nat :=
  match ancs [] 0 ops with
  | some ms => cutFrom ms ops.length
  | none => 0

/-- **A drawn region: one walk of the text's order serves.** -/
theorem draw_rule (hti : TiOK P ti) {id : Nat} {ops : List Oper} {σ : S} {K : S → Prop} (hm : P.follows .mixedOrders = true) (m : Nat) (hB : drawOK ops m = true) (h : evPre P ti N ops (ops.take m) σ fun σ' => evOps P ti N ops (ops.drop m) σ' K) : DrawS P ti N id ops σ K := by
  unfold drawOK at hB
  split at hB
  · rename_i ms hms
    simp only [Bool.and_eq_true] at hB
    obtain ⟨⟨hm', hw⟩, hf⟩ := hB
    have hml := Nat.le_of_ble_eq_true hm'
    refine ⟨fun κ g a w _ hst => wpIn_region_any hm ?_⟩
    obtain ⟨vs, σ', htail, hok', hmem, hnx, hch⟩ := evPre_chain hti _ σ hst.ok h
    have key : ∀ Q : Exit → Act → World → Prop, (∀ g' σ' a' w', K σ' → St κ N g' σ' a' w' → Q .normal a' w') → wpAnyIn (wd κ.rd) 0 P .any ops.toArray Q ops.length (Array.replicate ops.length false) a { w with drawn := w.drawn + 1 } := fun Q hQ => by
      have := any_pre (Q := Q) hti hms hml (fun i' h1 h2 => forced_spec hf i' h1 (by omega)) hw hst.ok hok' hmem hnx hch hQ htail m (List.range m) (Array.replicate ops.length false) g a { w with drawn := w.drawn + 1 }
        List.length_range List.nodup_range (fun k => by
          rw [List.mem_range]
          refine ⟨fun hk => ⟨hk, by simp [Array.getD, show k < ops.length by omega]⟩, fun hk => hk.1⟩) (by simp) (fun k _ hk => by simp [Array.getD, hk]) (fun k o _ hk => by simp [Array.getD] at hk)
        ⟨hst.size, hst.defers, hst.inv.drew _, fun i d hi => by simp [Array.getD] at hi, fun k v hk _ => hst.sl k v hk⟩
      rw [show m + (ops.length - m) = ops.length by omega] at this
      exact this
    rw [List.size_toArray]
    exact key _ fun g' σ' a' w' hK hst' => .of hK hst'
  · cases hB
/-- The same, the pure part found by itself. -/
theorem draw_auto (hti : TiOK P ti) (hm : P.follows .mixedOrders = true) {id : Nat} {ops : List Oper} {σ : S} {K : S → Prop} (hB : drawOK ops (cut ops) = true) (h : evPre P ti N ops (ops.take (cut ops)) σ fun σ' => evOps P ti N ops (ops.drop (cut ops)) σ' K) : DrawS P ti N id ops σ K := draw_rule hti hm (cut ops) hB h
end
end Go.Sy

/- Steps for proofs by the transformer. Conditions: none. -/
namespace Go.Sy
set_option linter.unusedVariables false

theorem at_known {α : Type} {e : α → List D} {l : List α} {k : Nat} {x : α} {K : List D → Prop} (hx : l[k]? = some x) (h : K (e x)) :
    (0 ≤ (k : Int) ∧ (k : Int) < (l.map e).length) ∧ ∀ c, (l.map e)[(k : Int).toNat]? = some c → K c := by
  have hk : k < l.length := (List.getElem?_eq_some_iff.1 hx).1
  refine ⟨⟨by omega, by simp; exact hk⟩, fun c hc => ?_⟩
  simp only [Int.toNat_natCast, List.getElem?_map, hx, Option.map_some, Option.some.injEq] at hc
  subst hc
  exact h

/-- At a number: the element is there. -/
theorem at_int {α : Type} {e : α → List D} {l : List α} {n : Int} {K : List D → Prop} (h0 : 0 ≤ n) (h1 : n < l.length) (h : ∀ x, l[n.toNat]? = some x → K (e x)) :
    (0 ≤ n ∧ n < (l.map e).length) ∧ ∀ c, (l.map e)[n.toNat]? = some c → K c := by
  refine ⟨⟨h0, by simpa using h1⟩, fun c hc => ?_⟩
  simp only [List.getElem?_map, Option.map_eq_some_iff] at hc
  obtain ⟨x, hx, rfl⟩ := hc
  exact h x hx

/-- The same in a list written out or else not a map. -/
theorem at_list {l : List (List D)} {k : Nat} {x : List D} {K : List D → Prop} (hx : l[k]? = some x) (h : K x) : (0 ≤ (k : Int) ∧ (k : Int) < l.length) ∧ ∀ c, l[(k : Int).toNat]? = some c → K c := by
  have hk : k < l.length := (List.getElem?_eq_some_iff.1 hx).1
  refine ⟨⟨by omega, by omega⟩, fun c hc => ?_⟩
  simp only [Int.toNat_natCast, hx, Option.some.injEq] at hc
  subst hc
  exact h

/-- A byte of a string. -/
theorem at_byte {l : List UInt8} {k : Nat} {x : UInt8} {K : UInt8 → Prop} (hx : l[k]? = some x) (h : K x) : (0 ≤ (k : Int) ∧ (k : Int) < l.length) ∧ ∀ c, l[(k : Int).toNat]? = some c → K c := by
  have hk : k < l.length := (List.getElem?_eq_some_iff.1 hx).1
  refine ⟨⟨by omega, by omega⟩, fun c hc => ?_⟩
  simp only [Int.toNat_natCast, hx, Option.some.injEq] at hc
  subst hc
  exact h

theorem wrap_i64 (n : Int) (h1 : -9223372036854775808 ≤ n) (h2 : n ≤ 9223372036854775807) : IntKind.i64.wrap n = n := IntWalk.i64_in n ⟨h1, h2⟩
theorem wrap_succ {k m : Nat} (h : k < m) (hm : m ≤ 9223372036854775807) : IntKind.i64.wrap ((k : Int) + 1) = ((k + 1 : Nat) : Int) := by rw [wrap_i64 _ (by omega) (by omega)]; rfl

theorem it_eq {k : IntKind} {a b : Int} (h : a = b) : AV.d (.it k a) = AV.d (.it k b) := by rw [h]
theorem bl_eq {a b : Bool} (h : a = b) : AV.d (.bl a) = AV.d (.bl b) := by rw [h]
theorem st_eq {a b : List UInt8} (h : a = b) : AV.d (.st a) = AV.d (.st b) := by rw [h]

/-- A round's end. -/
theorem again {α : Type} {I m : α → Prop} {A : α → S} {σ : S} (y : α) (hI : I y) (hμ : m y) (hsl : EntL σ.sl (A y).sl) (hmem : EntL σ.mem (A y).mem) (hok : (A y).ok = true) : ∃ y, I y ∧ m y ∧ En σ (A y) :=
  ⟨y, hI, hμ, hsl, hmem, hok⟩

theorem take_snoc {α : Type} {l : List α} {k : Nat} {x : α} (h : l[k]? = some x) : l.take (k + 1) = l.take k ++ [x] := by
  rw [List.take_add_one, h]; rfl

theorem lt_get {α : Type} {l : List α} {k : Nat} (h : k < l.length) : ∃ x, l[k]? = some x := ⟨_, List.getElem?_eq_getElem h⟩
theorem LetI.nm {e : Int} {K : Int → Prop} (h : ∀ z, z = e → K z) : LetI e K := ⟨h e rfl⟩
theorem LetI.eq {e : Int} {K : Int → Prop} (y : Int) (h : e = y) (hK : K y) : LetI e K := ⟨by rw [h]; exact hK⟩
theorem LetI.i64 {e : Int} {K : Int → Prop} (h : -9223372036854775808 ≤ e ∧ e ≤ 9223372036854775807) (hK : K e) : LetI (IntKind.i64.wrap e) K := ⟨by rw [IntWalk.i64_in e h]; exact hK⟩
theorem LetI.u64 {e : Int} {K : Int → Prop} (h : 0 ≤ e ∧ e ≤ 18446744073709551615) (hK : K e) : LetI (IntKind.u64.wrap e) K := ⟨by rw [IntWalk.u64_in e (by omega)]; exact hK⟩
theorem LetI.u8 {e : Int} {K : Int → Prop} (h : 0 ≤ e ∧ e ≤ 255) (hK : K e) : LetI (IntKind.u8.wrap e) K := ⟨by rw [IntWalk.u8_in e (by omega)]; exact hK⟩
theorem LetI.i64q {a b : Int} {K : Int → Prop} (h : 0 ≤ a ∧ 0 ≤ b ∧ a ≤ 9223372036854775807) (hK : K (a / b)) : LetI (IntKind.i64.wrap (a.tdiv b)) K := by
  have h1 : 0 ≤ a / b := Int.ediv_nonneg h.1 h.2.1
  have h2 : a / b ≤ a := Int.ediv_le_self _ h.1
  refine ⟨?_⟩
  rw [Int.tdiv_eq_ediv_of_nonneg h.1, IntWalk.i64_in _ ⟨by omega, by omega⟩]
  exact hK
theorem LetI.rem {a b : Int} {K : Int → Prop} (h : 0 ≤ a) (hK : K (a % b)) : LetI (a.tmod b) K := by
  refine ⟨?_⟩
  rw [Int.tmod_eq_emod_of_nonneg h]
  exact hK
theorem Spl.yes {b : Bool} {A B : Prop} (hb : b = true) (h : A) : Spl b A B := by subst hb; exact Spl.tt h
theorem Spl.no {b : Bool} {A B : Prop} (hb : b = false) (h : B) : Spl b A B := by subst hb; exact Spl.ff h
theorem cond_t {b : Bool} {p : Prop} (h : b = true) (hp : p) : bif b then p else False := by rw [h]; exact hp
theorem Spl.pd {p : Prop} {hd : Decidable p} {A B : Prop} (h1 : p → A) (h2 : ¬ p → B) : Spl (@decide p hd) A B := ⟨fun h => h1 (of_decide_eq_true h), fun h => h2 (of_decide_eq_false h)⟩
theorem Spl.peq {a b : Int} {A B : Prop} (h1 : a = b → A) (h2 : ¬ a = b → B) : Spl (a == b) A B := ⟨fun h => h1 (eq_of_beq h), fun h => h2 (by simpa using h)⟩
theorem Spl.pne {a b : Int} {A B : Prop} (h1 : ¬ a = b → A) (h2 : a = b → B) : Spl (a != b) A B := ⟨fun h => h1 (by simpa using h), fun h => h2 (by simpa using h)⟩
theorem Spl.seq {a b : List UInt8} {A B : Prop} (h1 : a = b → A) (h2 : ¬ a = b → B) : Spl (a == b) A B := ⟨fun h => h1 (eq_of_beq h), fun h => h2 (by simpa using h)⟩
theorem Spl.sne {a b : List UInt8} {A B : Prop} (h1 : ¬ a = b → A) (h2 : a = b → B) : Spl (!(a == b)) A B := ⟨fun h => h1 (by simpa using h), fun h => h2 (by simpa using h)⟩
theorem Spl.nt {b : Bool} {A B : Prop} (h : Spl b B A) : Spl (!b) A B := ⟨fun h' => h.f (by simpa using h'), fun h' => h.t (by simpa using h')⟩
theorem dtt {p : Prop} {hd : Decidable p} (h : p) : @decide p hd = true := decide_eq_true h
theorem dff {p : Prop} {hd : Decidable p} (h : ¬ p) : @decide p hd = false := decide_eq_false h
theorem ett {a b : Int} (h : a = b) : (a == b) = true := by simpa using h
theorem eff {a b : Int} (h : ¬ a = b) : (a == b) = false := by simpa using h
theorem ntt {a b : Int} (h : ¬ a = b) : (a != b) = true := by simpa using h
theorem nff {a b : Int} (h : a = b) : (a != b) = false := by simpa using h
theorem band_tt {a b : Bool} (ha : a = true) (hb : b = true) : (a && b) = true := by rw [ha, hb]; rfl
theorem ble_tt {a b : Nat} (h : a ≤ b) : Nat.ble a b = true := Nat.ble_eq_true_of_le h
theorem cond_tt {b : Bool} {p q : Prop} (h : b = true) (hp : p) : @cond.match_1 (fun _ => Prop) b (fun _ => p) (fun _ => q) := by rw [h]; exact hp
theorem LetN.mk' {e : Nat} {K : Nat → Prop} (h : K e) : LetN e K := ⟨h⟩
theorem LetN.nm {e : Nat} {K : Nat → Prop} (h : ∀ z, z = e → K z) : LetN e K := ⟨h e rfl⟩
theorem LetN.eq {e : Nat} {K : Nat → Prop} (y : Nat) (h : e = y) (hK : K y) : LetN e K := ⟨by rw [h]; exact hK⟩
theorem LetI.u64q {a b : Int} {K : Int → Prop} (h : 0 ≤ a ∧ 0 ≤ b ∧ a ≤ 18446744073709551615) (hK : K (a / b)) : LetI (IntKind.u64.wrap (a.tdiv b)) K := by
  have h1 : 0 ≤ a / b := Int.ediv_nonneg h.1 h.2.1
  have h2 : a / b ≤ a := Int.ediv_le_self _ h.1
  refine ⟨?_⟩
  rw [Int.tdiv_eq_ediv_of_nonneg h.1, IntWalk.u64_in _ ⟨by omega, by omega⟩]
  exact hK
theorem cells_eq {n m : Nat} {a b : List AV} (h1 : n = m) (h2 : a = b) : Ob.cells n a = Ob.cells m b := by rw [h1, h2]
theorem at_natm {α β : Type} {e : α → β} {l : List α} {k : Nat} {K : β → Prop} (h1 : k < l.length) (h : ∀ x, l[k]? = some x → K (e x)) :
    (0 ≤ (k : Int) ∧ (k : Int) < (l.map e).length) ∧ ∀ c, (l.map e)[(k : Int).toNat]? = some c → K c := by
  refine ⟨⟨by omega, by simpa using h1⟩, fun c hc => ?_⟩
  simp only [Int.toNat_natCast, List.getElem?_map, Option.map_eq_some_iff] at hc
  obtain ⟨x, hx, rfl⟩ := hc
  exact h x hx
theorem at_intm {α β : Type} {e : α → β} {l : List α} {n : Int} {K : β → Prop} (h0 : 0 ≤ n ∧ n < l.length) (h : ∀ x, l[n.toNat]? = some x → K (e x)) :
    (0 ≤ n ∧ n < (l.map e).length) ∧ ∀ c, (l.map e)[n.toNat]? = some c → K c := by
  refine ⟨⟨h0.1, by simpa using h0.2⟩, fun c hc => ?_⟩
  simp only [List.getElem?_map, Option.map_eq_some_iff] at hc
  obtain ⟨x, hx, rfl⟩ := hc
  exact h x hx
theorem at_nat {α : Type} {l : List α} {k : Nat} {K : α → Prop} (h1 : k < l.length) (h : ∀ x, l[k]? = some x → K x) :
    (0 ≤ (k : Int) ∧ (k : Int) < l.length) ∧ ∀ c, l[(k : Int).toNat]? = some c → K c := ⟨⟨by omega, by omega⟩, h⟩
theorem at_bi {α : Type} {l : List α} {n : Int} {K : α → Prop} (h0 : 0 ≤ n ∧ n < l.length) (h : ∀ x, l[n.toNat]? = some x → K x) :
    (0 ≤ n ∧ n < l.length) ∧ ∀ c, l[n.toNat]? = some c → K c := ⟨h0, h⟩
theorem at_hm {α β : Type} {e : α → β} {l : List α} {k : Nat} {x : α} {K : β → Prop} (hx : l[k]? = some x) (h : K (e x)) :
    (0 ≤ (k : Int) ∧ (k : Int) < (l.map e).length) ∧ ∀ c, (l.map e)[(k : Int).toNat]? = some c → K c :=
  at_natm (List.getElem?_eq_some_iff.1 hx).1 fun y hy => by rw [hx] at hy; obtain rfl := Option.some.inj hy; exact h
theorem at_hb {α : Type} {l : List α} {k : Nat} {x : α} {K : α → Prop} (hx : l[k]? = some x) (h : K x) :
    (0 ≤ (k : Int) ∧ (k : Int) < l.length) ∧ ∀ c, l[(k : Int).toNat]? = some c → K c :=
  at_nat (List.getElem?_eq_some_iff.1 hx).1 fun y hy => by rw [hx] at hy; obtain rfl := Option.some.inj hy; exact h
theorem at_nat8 {l : List UInt8} {k : Nat} {K : UInt8 → Prop} (h1 : k < l.length) (h : ∀ x, l[k]? = some x → x.toNat < 256 → K x) :
    (0 ≤ (k : Int) ∧ (k : Int) < l.length) ∧ ∀ c, l[(k : Int).toNat]? = some c → K c := at_nat h1 fun x hx => h x hx (UInt8.toNat_lt x)
theorem at_bi8 {l : List UInt8} {n : Int} {K : UInt8 → Prop} (h0 : 0 ≤ n ∧ n < l.length) (h : ∀ x, l[n.toNat]? = some x → x.toNat < 256 → K x) :
    (0 ≤ n ∧ n < l.length) ∧ ∀ c, l[n.toNat]? = some c → K c := ⟨h0, fun x hx => h x hx (UInt8.toNat_lt x)⟩
theorem at_natm8 {β : Type} {e : UInt8 → β} {l : List UInt8} {k : Nat} {K : β → Prop} (h1 : k < l.length) (h : ∀ x, l[k]? = some x → x.toNat < 256 → K (e x)) :
    (0 ≤ (k : Int) ∧ (k : Int) < (l.map e).length) ∧ ∀ c, (l.map e)[(k : Int).toNat]? = some c → K c := at_natm h1 fun x hx => h x hx (UInt8.toNat_lt x)
theorem ts_eq {sz n : Nat} {a b : List (List D)} (h : a = b) : AV.ts sz a n = AV.ts sz b n := by rw [h]
theorem fs_eq {sz : Nat} {a b : List (List D)} (h : a = b) : AV.d (.fs sz a) = AV.d (.fs sz b) := by rw [h]
theorem at_lit {α : Type} {l : List α} {n : Int} {x : α} {K : α → Prop} (h0 : 0 ≤ n ∧ n < l.length) (hx : l[n.toNat]? = some x) (h : K x) :
    (0 ≤ n ∧ n < l.length) ∧ ∀ c, l[n.toNat]? = some c → K c := ⟨h0, fun c hc => by rw [hx] at hc; obtain rfl := Option.some.inj hc; exact h⟩
theorem seq_tt {a b : List UInt8} (h : a = b) : (a == b) = true := by simpa using h
theorem seq_ff {a b : List UInt8} (h : ¬ a = b) : (a == b) = false := by simpa using h
theorem sne_tt {a b : List UInt8} (h : ¬ a = b) : (!(a == b)) = true := by simpa using h
theorem sne_ff {a b : List UInt8} (h : a = b) : (!(a == b)) = false := by simpa using h
end Go.Sy

/- What the arguments of a call read as, as data of the Sym layer. Conditions: none. -/
namespace Go.Sy
set_option linter.unusedVariables false
open Go.ChangeShapes Go.WideShapes Go.RowKit

def cellF (w : World) : Nat → Nat → Option Value := fun b o => w.cell? ⟨b, o, none⟩

def tileB (ti : Nat → Option Ty) (T : List Nat) : Nat → Nat → List (Nat × Nat) → Bool
  | o, size, [] => Nat.beq o size
  | o, size, (off, t) :: r => Nat.beq off o && T.contains t && (match ti t with | some ty => tileB ti T (o + ty.size) size r | none => false)

/-- A set of types that are read whole: bools, integers, strings, and slices, structs, arrays of them. -/
def closedB (ti : Nat → Option Ty) (T : List Nat) : Bool :=
  T.all fun t => match ti t with
    | some ⟨.bool, _, _, _, _, _⟩ | some ⟨.int _, _, _, _, _, _⟩ | some ⟨.string, _, _, _, _, _⟩ => true
    | some ⟨.slice e, _, _, _, _, _⟩ => T.contains e && (match ti e with | some ety => Nat.blt 0 ety.size | none => false)
    | some ⟨.struct fs, size, _, _, _, _⟩ => tileB ti T 0 size fs
    | some ⟨.arr n e, size, _, _, _, _⟩ => T.contains e && (match ti e with | some ety => Nat.beq size (n * ety.size) | none => false)
    | _ => false

def ShpL (S : Nat → List D → Prop) : List (Nat × Nat) → List D → Prop
  | [], ds => ds = []
  | (_, t) :: r, ds => ∃ a b, ds = a ++ b ∧ S t a ∧ ShpL S r b

def ShpN (S : List D → Prop) : Nat → List D → Prop
  | 0, ds => ds = []
  | n + 1, ds => ∃ a b, ds = a ++ b ∧ S a ∧ ShpN S n b

/-- What data of a type look like. -/
def Shp (ti : Nat → Option Ty) : Nat → Nat → List D → Prop
  | 0, _, _ => False
  | n + 1, t, ds => match ti t with
    | some ⟨.bool, _, _, _, _, _⟩ => ∃ b, ds = [.bl b]
    | some ⟨.int k, _, _, _, _, _⟩ => ∃ z, ds = [.it k z] ∧ k.min ≤ z ∧ z ≤ k.max
    | some ⟨.string, _, _, _, _, _⟩ => ∃ l, ds = [.st l] ∧ l.length ≤ maxLen
    | some ⟨.slice e, _, _, _, _, _⟩ => match ti e with
      | some ety => ∃ es, ds = [.fs ety.size es] ∧ es.length ≤ maxLen ∧ ∀ x ∈ es, Shp ti n e x
      | none => True
    | some ⟨.struct fs, _, _, _, _, _⟩ => ShpL (Shp ti n) fs ds
    | some ⟨.arr m e, _, _, _, _, _⟩ => ShpN (Shp ti n e) m ds
    | _ => True

section
variable {H : Type} {enc : TypeId × Value → H} {P : Program} {w : World} {base : Nat} {spare : Nat → Bool} {held : Bool} {ti : Nat → Option Ty} {T : List Nat}

theorem cell_none {a : Addr} {v : Value} (h : w.cell? a = some v) : a = ⟨a.block, a.off, none⟩ := by
  obtain ⟨b, o, s⟩ := a
  cases s with
  | none => rfl
  | some s =>
    simp only [World.cell?] at h
    split at h <;> simp at h

theorem cellsOf_ti (hti : TiOK P ti) {t : Nat} {ty : Ty} (h : ti t = some ty) : P.cellsOf t = ty.size := by
  obtain ⟨u, i, h'⟩ := tyOf_ok (hti _ _ h)
  simp [Program.cellsOf, h'.info, h'.size]

theorem mem_of_contains {t : Nat} {T : List Nat} (h : T.contains t = true) : t ∈ T := by simpa using h

theorem fs_none {F : Nat → Nat → Option Value} (sz : Nat) (a : Option Addr) (cap : Nat) {S : List D → Prop} : ∃ ds : List D, ds.length = [Value.slice a 0 cap].length ∧ (∀ j (h : j < ds.length), DR F ds[j] ([Value.slice a 0 cap].getD j undef)) ∧ ∃ es, ds = [.fs sz es] ∧ es.length ≤ maxLen ∧ ∀ x ∈ es, S x := by
  refine ⟨[.fs sz []], rfl, fun j hj => ?_, [], rfl, Nat.zero_le _, fun x hx => by cases hx⟩
  obtain rfl : j = 0 := by simp at hj; omega
  exact .fs0 _ _ _

theorem trod_D (hti : TiOK P ti) (hT : closedB ti T = true) : ∀ (n : Nat) (t : Nat), t ∈ T → ∀ (cs : List Value) (x : DataW H × List MemPlace), DataW.trod enc P w base spare held n t cs = some x →
    ∃ ds : List D, ds.length = cs.length ∧ (∀ j (h : j < ds.length), DR (cellF w) ds[j] (cs.getD j undef)) ∧ Shp ti n t ds
  | 0, t, ht, cs, x, h => by simp [DataW.trod] at h
  | n + 1, t, ht, cs, x, h => by
    have hc := List.all_eq_true.1 hT t ht
    simp only [Shp]
    split at hc
    · rename_i ht'
      obtain ⟨u, i, h'⟩ := tyOf_ok (hti _ _ ht')
      obtain rfl := bool_of h' rfl
      obtain ⟨b, rfl, _⟩ := DataW.trod_bool h'.und h
      refine ⟨[.bl b], rfl, fun j hj => ?_, ?_⟩
      · obtain rfl : j = 0 := by simp at hj; omega
        exact .bl b
      · exact ⟨b, rfl⟩
    · rename_i k _ _ _ _ _ ht'
      obtain ⟨u, i, h'⟩ := tyOf_ok (hti _ _ ht')
      obtain rfl := int_of h' rfl
      obtain ⟨z, rfl, _, hw⟩ := DataW.trod_int h'.und h
      refine ⟨[.it k z], rfl, fun j hj => ?_, ?_⟩
      · obtain rfl : j = 0 := by simp at hj; omega
        exact .it k z
      · simp only [Lit.wf, Bool.and_eq_true, decide_eq_true_eq] at hw
        exact ⟨z, rfl, hw.1, hw.2⟩
    · rename_i ht'
      obtain ⟨u, i, h'⟩ := tyOf_ok (hti _ _ ht')
      obtain rfl := string_of h' rfl
      obtain ⟨s, rfl, _, hs⟩ := DataW.trod_string h'.und h
      refine ⟨[.st s.data.toList], rfl, fun j hj => ?_, ?_⟩
      · obtain rfl : j = 0 := by simp at hj; omega
        obtain ⟨⟨l⟩⟩ := s
        exact .st l
      · exact ⟨_, rfl, by rw [Array.length_toList]; exact hs⟩
    · rename_i e _ _ _ _ _ ht'
      simp only [Bool.and_eq_true] at hc
      obtain ⟨u, i, h'⟩ := tyOf_ok (hti _ _ ht')
      obtain rfl := slice_of h' rfl
      have he := mem_of_contains hc.1
      split at hc
      · rename_i ety hety
        have hpos : 0 < ety.size := by simpa using hc.2
        have hce := cellsOf_ti hti hety
        try simp only [hety]
        rcases DataW.trod_slice h'.und h with ⟨rfl, _⟩ | ⟨a, len, cap, elems, rest, m, hm, rfl, _, hb, hl, hmx, hlen, hel, _⟩
        · exact fs_none _ _ _
        · obtain rfl : m = n := by omega
          by_cases h0 : len = 0
          · subst h0
            exact fs_none _ _ _
          have key : ∀ i, i < len → ∃ (es : List D) (ci : List Value), w.cells? base (a.add (i * ety.size)) ety.size = some ci ∧ es.length = ci.length ∧ (∀ j (h : j < es.length), DR (cellF w) es[j] (ci.getD j undef)) ∧ Shp ti m e es := by
            intro i hi
            have h1 := hel i hi
            rw [hce] at h1
            obtain ⟨y, hy⟩ : ∃ y, elems[i]? = some y := ⟨_, List.getElem?_eq_getElem (by omega)⟩
            rw [hy] at h1
            obtain ⟨ci, hci, htr⟩ := Option.bind_eq_some_iff.1 h1
            obtain ⟨es, k1, k2, k3⟩ := trod_D hti hT m e he ci y htr
            exact ⟨es, ci, hci, k1, k2, k3⟩
          obtain ⟨f, hf⟩ := Go.Deep.choose_lt (α := List D × List Value) (p := fun i y => w.cells? base (a.add (i * ety.size)) ety.size = some y.2 ∧ y.1.length = y.2.length ∧ (∀ j (h : j < y.1.length), DR (cellF w) y.1[j] (y.2.getD j undef)) ∧ Shp ti m e y.1) (n := len) (fun i hi => by
            obtain ⟨es, ci, q⟩ := key i hi
            exact ⟨(es, ci), q⟩)
          have hcell : ∀ i j, i < len → j < ety.size → w.cell? (a.add (i * ety.size + j)) = some ((f i).2.getD j undef) := by
            intro i j hi hj
            obtain ⟨k1, _, _, _⟩ := hf i hi
            obtain ⟨_, q2, q3⟩ := World.cells?_some k1
            have := q3 j hj
            rw [Go.Deep.add_add] at this
            rw [this, List.getD, List.getElem?_eq_getElem (by omega)]
            rfl
          have ha : a = ⟨a.block, a.off, none⟩ := by
            have := hcell 0 0 (by omega) hpos
            simp only [Nat.zero_mul, Nat.add_zero] at this
            have e0 : a.add 0 = a := by simp [Addr.add]
            rw [e0] at this
            exact cell_none this
          refine ⟨[.fs ety.size ((List.range len).map fun i => (f i).1)], rfl, fun j hj => ?_, _, rfl, by simp; omega, fun x hx => ?_⟩
          · obtain rfl : j = 0 := by simp at hj; omega
            show DR (cellF w) (.fs ety.size ((List.range len).map fun i => (f i).1)) (.slice (some a) len cap)
            rw [ha]
            refine .fs _ _ _ _ _ _ (fun i j => (f i).2.getD j undef) (by simp) hl (fun i hi => ?_) (fun i j hi hj => ?_) (fun i hi j hj => ?_)
            · simp only [List.length_map, List.length_range] at hi
              simp only [List.getElem_map, List.getElem_range]
              obtain ⟨k1, k2, _, _⟩ := hf i hi
              rw [k2]; exact (World.cells?_some k1).2.1
            · have := hcell i j hi hj
              rw [ha, addr_add] at this
              show w.cell? ⟨a.block, a.off + i * ety.size + j, none⟩ = _
              rw [Nat.add_assoc]; exact this
            · simp only [List.length_map, List.length_range] at hi
              simp only [List.getElem_map, List.getElem_range] at hj ⊢
              obtain ⟨_, _, k3, _⟩ := hf i hi
              exact k3 j hj
          · simp only [List.mem_map, List.mem_range] at hx
            obtain ⟨i, hi, rfl⟩ := hx
            exact (hf i hi).2.2.2
      · simp at hc
    · rename_i fs size _ _ _ _ ht'
      obtain ⟨u, inf, h'⟩ := tyOf_ok (hti _ _ ht')
      obtain ⟨fields, rfl, hfl⟩ := fields_of h' rfl
      have hsz := cellsOf_ti hti ht'
      obtain ⟨xs, m, hm, _, hl, hxl, hf⟩ := DataW.trod_struct h'.und h
      obtain rfl : m = n := by omega
      rw [hsz] at hl
      simp only at hl
      have key : ∀ (r : List (Nat × Nat)) (i o : Nat), fs.drop i = r → o ≤ size → tileB ti T o size r = true → ∃ ds : List D, ds.length = size - o ∧ (∀ j (h : j < ds.length), DR (cellF w) ds[j] (cs.getD (o + j) undef)) ∧ ShpL (Shp ti m) r ds := by
        intro r
        induction r with
        | nil =>
          intro i o hr ho ht
          have : o = size := Nat.eq_of_beq_eq_true ht
          subst this
          exact ⟨[], by simp, (fun j hj => by cases hj), rfl⟩
        | cons p r ih =>
          obtain ⟨off, ft⟩ := p
          intro i o hr ho ht
          simp only [tileB, Bool.and_eq_true] at ht
          obtain ⟨⟨t1, t2⟩, t3⟩ := ht
          obtain rfl := Nat.eq_of_beq_eq_true t1
          split at t3
          · rename_i fty hft
            have hfi : fs[i]? = some (off, ft) := by
              have := congrArg (·[0]?) hr
              simpa using this
            obtain ⟨fd, g1, g2, g3⟩ := field_of hfl hfi
            have htr := hf i fd g1
            have hil : i < xs.length := by rw [hxl]; exact (Array.getElem?_eq_some_iff.1 g1).1
            rw [List.getElem?_eq_getElem hil, g2, g3, cellsOf_ti hti hft] at htr
            obtain ⟨da, k1, k2, k3⟩ := trod_D hti hT m ft (mem_of_contains t2) _ _ htr
            have hle : off + fty.size ≤ size := by
              clear ih
              have : ∀ (r : List (Nat × Nat)) (o : Nat), tileB ti T o size r = true → o ≤ size := by
                intro r
                induction r with
                | nil => intro o h; exact Nat.le_of_eq (Nat.eq_of_beq_eq_true h)
                | cons p r ih =>
                  obtain ⟨a, b⟩ := p
                  intro o h
                  simp only [tileB, Bool.and_eq_true] at h
                  obtain ⟨_, h⟩ := h
                  split at h
                  · have := ih _ h; omega
                  · cases h
              exact this r _ t3
            obtain ⟨db, q1, q2, q3⟩ := ih (i + 1) (off + fty.size) (by rw [← List.tail_drop, hr]; rfl) hle t3
            have hda : da.length = fty.size := by rw [k1]; simp; omega
            refine ⟨da ++ db, by simp [hda, q1]; omega, fun j hj => ?_, da, db, rfl, k3, q3⟩
            by_cases hjl : j < da.length
            · rw [List.getElem_append_left hjl]
              have := k2 j hjl
              have e : ((cs.drop off).take fty.size).getD j undef = cs.getD (off + j) undef := by
                simp only [List.getD, List.getElem?_take, List.getElem?_drop]
                rw [if_pos (by omega)]
              rw [e] at this; exact this
            · rw [List.getElem_append_right (by omega)]
              have := q2 (j - da.length) (by simp at hj; omega)
              rw [show off + fty.size + (j - da.length) = off + j by omega] at this
              exact this
          · cases t3
      obtain ⟨ds, r1, r2, r3⟩ := key fs 0 0 rfl (Nat.zero_le _) hc
      exact ⟨ds, by omega, fun j hj => by simpa using r2 j hj, r3⟩
    · rename_i m e size _ _ _ _ ht'
      simp only [Bool.and_eq_true] at hc
      obtain ⟨u, inf, h'⟩ := tyOf_ok (hti _ _ ht')
      obtain rfl := arr_of h' rfl
      have he := mem_of_contains hc.1
      split at hc
      · rename_i ety hety
        have hse : size = m * ety.size := Nat.eq_of_beq_eq_true hc.2
        have hsz := cellsOf_ti hti ht'
        have hce := cellsOf_ti hti hety
        obtain ⟨xs, m', hm', _, hl, hxl, hf⟩ := DataW.trod_array h'.und h
        obtain rfl : m' = n := by omega
        rw [hsz] at hl
        simp only at hl
        have key : ∀ (k i : Nat), i + k = m → ∃ ds : List D, ds.length = k * ety.size ∧ (∀ j (h : j < ds.length), DR (cellF w) ds[j] (cs.getD (i * ety.size + j) undef)) ∧ ShpN (Shp ti m' e) k ds := by
          intro k
          induction k with
          | zero => intro i _; exact ⟨[], by simp, (fun j hj => by cases hj), rfl⟩
          | succ k ih =>
            intro i hi
            have htr := hf i (by omega)
            rw [hce, List.getElem?_eq_getElem (by omega)] at htr
            obtain ⟨da, k1, k2, k3⟩ := trod_D hti hT m' e he _ _ htr
            obtain ⟨db, q1, q2, q3⟩ := ih (i + 1) (by omega)
            have hle : i * ety.size + ety.size ≤ cs.length := by
              have : (i + 1) * ety.size ≤ m * ety.size := Nat.mul_le_mul_right _ (by omega)
              rw [Nat.add_mul] at this; omega
            have hda : da.length = ety.size := by rw [k1]; simp; omega
            refine ⟨da ++ db, by simp [hda, q1, Nat.add_mul]; omega, fun j hj => ?_, da, db, rfl, k3, q3⟩
            by_cases hjl : j < da.length
            · rw [List.getElem_append_left hjl]
              have := k2 j hjl
              have e : ((cs.drop (i * ety.size)).take ety.size).getD j undef = cs.getD (i * ety.size + j) undef := by
                simp only [List.getD, List.getElem?_take, List.getElem?_drop]
                rw [if_pos (by omega)]
              rw [e] at this; exact this
            · rw [List.getElem_append_right (by omega)]
              have := q2 (j - da.length) (by simp at hj; omega)
              rw [show (i + 1) * ety.size + (j - da.length) = i * ety.size + j by rw [Nat.add_mul]; omega] at this
              exact this
        obtain ⟨ds, r1, r2, r3⟩ := key m 0 (by omega)
        exact ⟨ds, by omega, fun j hj => by simpa using r2 j hj, r3⟩
      · simp at hc
    · cases hc
end
end Go.Sy

/- Calls entered in place, ranges over functions: the walk in the callee's frame, the caller's waiting. Conditions: none. -/
namespace Go.Sy
set_option linter.unusedVariables false
set_option linter.unusedSimpArgs false

section
variable {P : Program} {ti : Nat → Option Ty} {N : Nat}

/-- Frame k waits no longer; nor do the ranges of it stand. -/
def Ob.kill (k n : Nat) : Ob → Ob
  | .frame sz l => bif Nat.beq n k then .frame 0 [] else .frame sz l
  | .loop k' ps asg body st pd => bif Nat.beq k' k then .frame 0 [] else .loop k' ps asg body st pd
  | o => o
def kills (k : Nat) : List (Nat × Ob) → List (Nat × Ob)
  | [] => []
  | (n, o) :: t => (n, o.kill k n) :: kills k t

theorem look_kills (k n : Nat) : ∀ l : List (Nat × Ob), look n (kills k l) = (look n l).map (Ob.kill k n)
  | [] => rfl
  | (m, o) :: t => by
    simp only [kills, look_cons, look_kills k n t]
    by_cases h : n = m
    · subst h; simp
    · simp [h]

theorem kills_ok {k nx : Nat} : ∀ {l : List (Nat × Ob)}, (∀ p ∈ l, p.1 < nx ∧ p.2.lt nx = true) → ∀ p ∈ kills k l, p.1 < nx ∧ p.2.lt nx = true
  | [], _, p, hp => by cases hp
  | (m, o) :: t, h, p, hp => by
    simp only [kills, List.mem_cons] at hp
    rcases hp with rfl | hp
    · obtain ⟨h1, h2⟩ := h (m, o) List.mem_cons_self
      refine ⟨h1, ?_⟩
      cases o with
      | cells => exact h2
      | tail => rfl
      | vec => rfl
      | tag => exact h2
      | frame sz l => simp only [Ob.kill]; cases Nat.beq m k <;> first | rfl | exact h2
      | loop k' ps asg body st pd => simp only [Ob.kill]; cases Nat.beq k' k <;> first | rfl | exact h2
    · exact kills_ok (fun p hp => h p (List.mem_cons_of_mem _ hp)) p hp

theorem On.kills {g : Gh} {k n : Nat} {mem : List (Nat × Ob)} (h : On g (kills k mem) n) : On g mem n := by
  unfold On at h ⊢
  rw [look_kills] at h
  cases hl : look n mem with
  | none => rw [hl] at h; exact h
  | some ob =>
    rw [hl] at h
    cases ob with
    | cells => trivial
    | tail => exact h
    | vec => exact h
    | tag => exact h
    | frame sz l => simp only [Option.map, Ob.kill] at h; cases hb : Nat.beq n k <;> rw [hb] at h <;> exact h
    | loop => trivial

/-- The context of the activation that is entered. -/
def Ctx.inn (κ : Ctx) (r : Option Nat) (k : Nat) (t : Array Value) : Ctx := { κ with rd := r, df := [], sv := fun n => if n = k then t else κ.sv n }

theorem Inv.enter {κ : Ctx} {g : Gh} {σ : S} {w : World} {t : Array Value} {N : Nat} (r : Option Nat) (hi : Inv κ g σ.mem w) (hok : σ.ok = true) (ht : t.size = N) (hs : ∀ s v, look s σ.sl = some v → AVR g v (t.getD s undef)) :
    Inv (κ.inn r σ.nx t) g ((σ.nx, .frame (N + 1) σ.sl) :: σ.mem) w := by
  have on : ∀ n, On g ((σ.nx, .frame (N + 1) σ.sl) :: σ.mem) n → On g σ.mem n := fun n h => by
    unfold On at h ⊢
    rw [look_cons] at h
    by_cases hn : n = σ.nx
    · rw [if_pos hn] at h; exact h.elim
    · rw [if_neg hn] at h; exact h
  refine ⟨hi.frz, fun n ob hn => ?_, fun n m hnm h h' => hi.inj n m hnm (on n h) (on m h'), hi.size, hi.pres, fun n h => hi.own n (on n h), hi.f0, hi.fnew, hi.os, hi.tape, hi.output, hi.dfr⟩
  rw [look_cons] at hn
  by_cases hnx : n = σ.nx
  · subst hnx
    rw [if_pos rfl] at hn
    obtain rfl := Option.some.inj hn
    have e : (κ.inn r σ.nx t).sv σ.nx = t := if_pos rfl
    exact ⟨fun m hm => by rw [e]; omega, fun s v h => by rw [e]; exact hs s v h⟩
  · rw [if_neg hnx] at hn
    have hob := hi.obs n ob hn
    have hlt := (S.ok_mem hok hn).2
    cases ob with
    | cells => exact hob
    | tail => exact hob
    | vec => exact hob
    | tag => exact hob
    | frame sz l =>
      have e : (κ.inn r σ.nx t).sv n = κ.sv n := if_neg hnx
      exact ⟨by rw [e]; exact hob.1, by rw [e]; exact hob.2⟩
    | loop k' ps asg body st pd =>
      simp only [Ob.lt, Nat.blt_eq] at hlt
      have e : (κ.inn r σ.nx t).sv k' = κ.sv k' := if_neg (by omega)
      obtain ⟨eb, fn, D, h⟩ := hob
      exact ⟨eb, fn, D, by rw [e]; exact h⟩

/-- Back in the activation that waited. -/
theorem Inv.leave {κ κ' : Ctx} {g : Gh} {mem : List (Nat × Ob)} {w : World} {k : Nat} (hi : Inv κ' g mem w) (h1 : κ'.w0 = κ.w0) (h2 : κ'.F0 = κ.F0) (h3 : κ'.mod = κ.mod) (h4 : ∀ D ∈ κ.dfb, D ∈ κ'.dfb) (h5 : ∀ n, n ≠ k → κ'.sv n = κ.sv n)
    (h6 : ∀ n k' ps asg body st pd, look n mem = some (.loop k' ps asg body st pd) → κ'.lb n = κ.lb n) : Inv κ g (kills k mem) w := by
  refine ⟨hi.frz, fun n ob hn => ?_, fun n m hnm h h' => hi.inj n m hnm h.kills h'.kills, h1 ▸ hi.size, by rw [← h1, ← h3]; exact hi.pres, fun n h => by rw [← h1, ← h3]; exact hi.own n h.kills, by rw [← h2]; exact hi.f0, by rw [← h1, ← h2, ← h3]; exact hi.fnew, h1 ▸ hi.os, h1 ▸ hi.tape, h1 ▸ hi.output, fun D hD => hi.dfr D (h4 D hD)⟩
  rw [look_kills] at hn
  cases hl : look n mem with
  | none => rw [hl] at hn; cases hn
  | some ob0 =>
    rw [hl] at hn
    obtain rfl := Option.some.inj hn
    have hob := hi.obs n ob0 hl
    have dead : ∀ m, ObOK κ g w m (.frame 0 []) := fun m => ⟨(fun _ h => by cases h), (fun _ _ h => by cases h)⟩
    cases ob0 with
    | cells => exact hob
    | tail => exact hob
    | vec => exact hob
    | tag => exact hob
    | frame sz l =>
      simp only [Ob.kill]
      cases hb : Nat.beq n k with
      | true => exact dead n
      | false =>
        have hne : n ≠ k := fun e => by subst e; rw [Nat.beq_refl] at hb; cases hb
        exact ⟨by rw [← h5 n hne]; exact hob.1, by rw [← h5 n hne]; exact hob.2⟩
    | loop k' ps asg body st pd =>
      simp only [Ob.kill]
      cases hb : Nat.beq k' k with
      | true => exact dead n
      | false =>
        have hne : k' ≠ k := fun e => by subst e; rw [Nat.beq_refl] at hb; cases hb
        obtain ⟨eb, fn, D, h⟩ := hob
        exact ⟨by rw [← h6 _ _ _ _ _ _ _ hl]; exact eb, fn, D, by rw [← h5 k' hne]; exact h⟩

def AV.noT : AV → Bool
  | .tup _ => false
  | _ => true

theorem resL_lt {ti : Nat → Option Ty} {σ : S} (hok : σ.ok = true) : ∀ {rs : List ResultVar} {l : List AV}, resL ti rs σ = some l → ∀ v ∈ l, v.lt σ.nx = true
  | [], l, hl, v, hv => by obtain rfl := Option.some.inj hl; cases hv
  | .tmp t :: r, l, hl, v, hv => by
    simp only [resL] at hl
    split at hl
    · rename_i u l' hu hl'
      obtain rfl := Option.some.inj hl
      rcases List.mem_cons.1 hv with rfl | hv
      · exact S.ok_sl hok hu
      · exact resL_lt hok hl' v hv
    · cases hl
  | .cell t ty :: r, l, hl, v, hv => by
    simp only [resL] at hl
    split at hl
    · rename_i n off tt l' hu ht hl'
      split at hl
      · rename_i size c hm
        cases hb : (Nat.ble (off + tt.size) size && Nat.blt off size) with
        | false => rw [hb] at hl; cases hl
        | true =>
          rw [hb] at hl
          obtain rfl := Option.some.inj hl
          rcases List.mem_cons.1 hv with rfl | hv
          · have := (S.ok_mem hok hm).2
            simp only [Ob.lt, List.all_eq_true] at this
            exact ldA_lt this
          · exact resL_lt hok hl' v hv
      · cases hl
    · cases hl

theorem noT_lt {v : AV} {m : Nat} (h : v.noT = true) (hl : v.lt m = true) : v.lt2 m = true := by
  cases v <;> first | exact hl | cases h

theorem resV_lt {l : List AV} {m : Nat} (h : ∀ v ∈ l, v.lt m = true) (hn : l.all AV.noT = true) : (resV l).lt m = true := by
  match l with
  | [] => rfl
  | [v] => exact h v List.mem_cons_self
  | v :: u :: t =>
    simp only [resV, AV.lt, List.all_eq_true] at hn ⊢
    exact fun x hx => noT_lt (hn x hx) (h x hx)

theorem res_ok (hti : TiOK P ti) {fn : Func} {κ : Ctx} {g : Gh} {σ : S} {a : Act} {w : World} (h : St κ N g σ a w) {l : List AV} (hl : resL ti fn.results.toList σ = some l) : ∃ u, (results fn a.tmps).run P w = .ok u w ∧ AVR g (resV l) u := by
  obtain ⟨vs, h1, h2, h3⟩ := resL_ok hti h hl
  have hu : AVR g (resV l) (if hs : vs.toArray.size = 1 then vs.toArray[0] else .tuple vs.toArray) := by
    match l, vs, h1, h2 with
    | [x], [y], _, h2 => simpa [resV] using h2 0 (by simp) (by simp)
    | [], [], _, _ => exact .tup _ _ rfl fun j hj => by cases hj
    | x :: x' :: l, y :: y' :: vs, h1, h2 =>
      simp only [resV]
      rw [dif_neg (by simp)]
      refine .tup _ _ (by simpa using h1) fun j hj => ?_
      have hj' : j < (y :: y' :: vs).length := by rw [h1]; exact hj
      have := h2 j hj hj'
      have e : (y :: y' :: vs).toArray.getD j undef = (y :: y' :: vs)[j] := by
        rw [Array.getD, dif_pos (by simpa using hj')]; simp [Array.getInternal]
      rw [e]; exact this
  refine ⟨_, ?_, hu⟩
  rw [results_eq, Array.mapM_eq_mapM_toList]
  simp only [Sem.run_bind, Sem.run_map, h3, Result.andThen_ok, Sem.run_pure]

/-- A function of the program, as a call enters it. -/
structure FnI (P : Program) (f N : Nat) (rs : List ResultVar) (c : Code) : Prop where
  ex : ∃ fn, P.funcs[f]? = some fn ∧ fn.body = some c ∧ fn.ntmps = N ∧ fn.results.toList = rs
  call : ∀ (vs : Array Value) (w : World), (callFunc f vs).run P w = .ok (.enter f vs) w

/-- The end of a call that was entered. -/
def finI (ti : Nat → Option Ty) (rs : List ResultVar) (k : Nat) (d : Option Nat) (K : S → Prop) : Exit → S → Prop
  | .ret, σ | .normal, σ => match resL ti rs σ with
    | some l => bif l.all AV.noT then (match look k σ.mem with
      | some (.frame _ sl) => K (S.put ⟨sl, kills k σ.mem, σ.nx⟩ d (resV l))
      | _ => False) else False
    | none => False
  | _, _ => False

theorem finI_exit {rs : List ResultVar} {k : Nat} {d : Option Nat} {K : S → Prop} {e : Exit} {σ : S} (h : finI ti rs k d K e σ) : e = .ret ∨ e = .normal := by
  cases e with
  | ret => exact .inl rfl
  | normal => exact .inr rfl
  | _ => exact h.elim

theorem finI_ok {rs : List ResultVar} {k : Nat} {d : Option Nat} {K : S → Prop} {e : Exit} {σ : S} (h : finI ti rs k d K e σ) : ∃ l sz sl, resL ti rs σ = some l ∧ l.all AV.noT = true ∧ look k σ.mem = some (.frame sz sl) ∧ K (S.put ⟨sl, kills k σ.mem, σ.nx⟩ d (resV l)) := by
  have h' : (match resL ti rs σ with
    | some l => bif l.all AV.noT then (match look k σ.mem with
      | some (.frame _ sl) => K (S.put ⟨sl, kills k σ.mem, σ.nx⟩ d (resV l))
      | _ => False) else False
    | none => False) := by rcases finI_exit h with rfl | rfl <;> exact h
  split at h'
  · rename_i l hl
    obtain ⟨h1, h'⟩ := bif_ok h'
    split at h'
    · rename_i sz sl hs
      exact ⟨l, sz, sl, hl, h1, hs, h'⟩
    · exact h'.elim
  · exact h'.elim

/-- The arguments in the slots of the activation that is entered. -/
theorem St.args {κ : Ctx} {g : Gh} {w : World} {vs : Array Value} {l : List AV} {mem : List (Nat × Ob)} {nx : Nat} (hi : Inv κ g mem w) (hdf : κ.df = []) (hlen : l.length ≤ N) (hsz : vs.size = l.length) (hav : ∀ j (h : j < l.length), AVR g l[j] (vs.getD j undef))
    (hok : (S.mk (idx 0 l) mem nx).ok = true) : St κ N g ⟨idx 0 l, mem, nx⟩ { tmps := vs ++ Array.replicate (N - vs.size) undef, defers := [] } w := by
  refine ⟨by simp; omega, by rw [hdf]; rfl, fun k v hk => ?_, hi, hok⟩
  obtain ⟨h1, _, h3⟩ := look_idx l 0 k v hk
  simp only [Nat.sub_zero] at h1 h3
  subst h3
  have := hav k h1
  have e : (vs ++ Array.replicate (N - vs.size) undef).getD k undef = vs.getD k undef := by
    have hk1 : k < vs.size := by omega
    rw [Array.getD, dif_pos (by simp; omega), Array.getD, dif_pos hk1]
    exact Array.getElem_append_left hk1
  simp only [e]
  exact this

/-- The values of a call by a function value. -/
theorem call_vals {κ : Ctx} {g : Gh} {σ : S} {a : Act} {w : World} (hst : St κ N g σ a w) {x : Operand} {xs : Array Operand} {f : Fn} {first cap l' : List AV} (hx : ρ σ.sl x = some (.fn f first cap)) (hl : argsA (ρ σ.sl) xs.toList = some l') :
    ∃ vs ws : Array Value, a.eval x = .func f vs ws ∧ (vs ++ xs.map a.eval ++ ws).size = (first ++ l' ++ cap).length ∧ ∀ j (h : j < (first ++ l' ++ cap).length), AVR g (first ++ l' ++ cap)[j] ((vs ++ xs.map a.eval ++ ws).getD j undef) := by
  have hxv := ρ_ok hst.sl hx
  generalize hev : a.eval x = q at hxv
  cases hxv with | fn _ _ _ vs ws h1 h2 h3 h4 => ?_
  obtain ⟨a1, a2⟩ := argsA_ok (g := g) (a := a) hl (fun y _ v hv => ρ_ok hst.sl hv)
  have a1' : l'.length = xs.size := by simpa using a1
  refine ⟨vs, ws, rfl, by simp [h1, h2, a1'], fun j hj => ?_⟩
  simp only [List.length_append] at hj
  by_cases c1 : j < first.length
  · have e1 : (first ++ l' ++ cap)[j] = first[j] := by
      rw [List.getElem_append_left (by simp; omega), List.getElem_append_left c1]
    have e2 : (vs ++ xs.map a.eval ++ ws).getD j undef = vs.getD j undef := by
      simp only [Array.getD_eq_getD_getElem?]
      rw [Array.getElem?_append_left (by simp; omega), Array.getElem?_append_left (by omega)]
    rw [e1, e2]; exact h3 j c1
  · by_cases c2 : j < first.length + l'.length
    · have e1 : (first ++ l' ++ cap)[j] = l'[j - first.length]'(by omega) := by
        rw [List.getElem_append_left (by simp; omega), List.getElem_append_right (by omega)]
      have e2 : (vs ++ xs.map a.eval ++ ws).getD j undef = a.eval (xs.toList[j - first.length]'(by simp; omega)) := by
        simp only [Array.getD_eq_getD_getElem?]
        rw [Array.getElem?_append_left (by simp; omega), Array.getElem?_append_right (by omega)]
        simp [h1, show j - first.length < xs.size by omega]
      rw [e1, e2]; exact a2 _ (by omega) _
    · have e1 : (first ++ l' ++ cap)[j] = cap[j - first.length - l'.length]'(by omega) := by
        rw [List.getElem_append_right (by simp; omega)]
        simp only [List.length_append, Nat.sub_sub]
      have e2 : (vs ++ xs.map a.eval ++ ws).getD j undef = ws.getD (j - first.length - l'.length) undef := by
        simp only [Array.getD_eq_getD_getElem?]
        rw [Array.getElem?_append_right (by simp; omega)]
        simp [h1, a1', Nat.sub_sub]
      rw [e1, e2]; exact h4 _ (by omega)

theorem call_lt {σ : S} (hok : σ.ok = true) {x : Operand} {xs : Array Operand} {f : Fn} {first cap l' : List AV} (hx : ρ σ.sl x = some (.fn f first cap)) (hl : argsA (ρ σ.sl) xs.toList = some l') : ∀ v ∈ first ++ l' ++ cap, v.lt σ.nx = true := by
  have h1 := ρ_lt hok hx
  simp only [AV.lt, AV.lt2, AV.lt1, List.all_eq_true, Bool.and_eq_true] at h1
  have up : ∀ {v : AV}, v.lt0 σ.nx = true → v.lt σ.nx = true := fun {v} h => by
    cases v <;> first | exact h | cases h
  intro v hv
  rcases List.mem_append.1 hv with hv | hv
  · rcases List.mem_append.1 hv with hv | hv
    · exact up (h1.1 v hv)
    · obtain ⟨y, _, hy⟩ := argsA_mem hl hv
      exact ρ_lt hok hy
  · exact up (h1.2 v hv)

/-- Back from a call: the caller's state. -/
theorem St.back {κ κ' : Ctx} {g : Gh} {τ : S} {a a' : Act} {w : World} {N' k sz d : Nat} {sl : List (Nat × AV)} {od : Option Nat} {v : AV} {u : Value} (hst : St κ' N' g τ a' w) (hl : look k τ.mem = some (.frame sz sl)) (ha : a.tmps.size = N) (hdf : a.defers = κ.df.map mark) (hsv : κ'.sv k = a.tmps)
    (hi : Inv κ g (kills k τ.mem) w) (hd : ∀ d, od = some d → d < N) (hv : AVR g v u) (hlt : v.lt τ.nx = true) : St κ N g (S.put ⟨sl, kills k τ.mem, τ.nx⟩ od v) (a.put od u) w := by
  have hfr := hst.inv.obs k _ hl
  have hlt' := (S.ok_mem hst.ok hl).2
  simp only [Ob.lt, List.all_eq_true] at hlt'
  have hok : (S.mk sl (kills k τ.mem) τ.nx).ok = true := S.ok_iff.2 ⟨hlt', kills_ok (S.ok_memAll hst.ok)⟩
  have h0 : St κ N g ⟨sl, kills k τ.mem, τ.nx⟩ a w := ⟨ha, hdf, fun s v hs => by rw [← hsv]; exact hfr.2 s v hs, hi, hok⟩
  cases od with
  | none => exact h0
  | some d => exact h0.put (hd d rfl) (.refl _ _) hi hv (S.ok_cons hok (Nat.le_refl _) hlt (kills_ok (S.ok_memAll hst.ok)))

/-- **A call, entered.** -/
theorem CallI.inl {f N' : Nat} {rs : List ResultVar} {c : Code} {o : Oper} {σ : S} {l : List AV} {K : S → Prop} (hti : TiOK P ti) (hf : FnI P f N' rs c) (hlen : Nat.ble l.length N' = true)
    (h : vc P ti N' c (finI ti rs σ.nx o.dst K) ⟨idx 0 l, (σ.nx, .frame (N + 1) σ.sl) :: σ.mem, σ.nx + 1⟩) : CallI P N o σ f l K := by
  refine ⟨fun ⟨⟨x, xs, ats, first, cap, l', hop, hx, hl, hll⟩, hd⟩ κ g a w hst next Q hn => ?_⟩
  subst hll
  obtain ⟨fn, k1, k2, k3, rfl⟩ := hf.ex
  obtain ⟨vs, ws, hev, hsz, hav⟩ := call_vals hst hx hl
  have hlen' := Nat.le_of_ble_eq_true hlen
  have hexec : (execOp a.eval o).run P w = .ok (.enter f (vs ++ xs.map a.eval ++ ws)) w := by
    simp only [execOp, hop, resolve, hev, Deferred.ofValue, pure_bind, invoke]
    exact hf.call _ _
  refine wp_enter hexec ?_
  have hi' : Inv (κ.inn none σ.nx a.tmps) g ((σ.nx, .frame (N + 1) σ.sl) :: σ.mem) w := hst.inv.enter none hst.ok hst.size hst.sl
  have hst' : St (κ.inn none σ.nx a.tmps) N' g ⟨idx 0 (first ++ l' ++ cap), (σ.nx, .frame (N + 1) σ.sl) :: σ.mem, σ.nx + 1⟩ { tmps := (vs ++ xs.map a.eval ++ ws) ++ Array.replicate (fn.ntmps - (vs ++ xs.map a.eval ++ ws).size) undef, defers := [] } w := by
    rw [k3]
    refine St.args hi' rfl hlen' hsz hav (S.ok_iff.2 ⟨fun p hp => AV.lt_mono (call_lt hst.ok hx hl _ (idx_mem _ _ _ hp)) (Nat.le_succ _), fun p hp => ?_⟩)
    rcases List.mem_cons.1 hp with rfl | hp
    · refine ⟨Nat.lt_succ_self _, ?_⟩
      simp only [Ob.lt, List.all_eq_true]
      exact fun p hp => AV.lt_mono ((S.ok_iff.1 hst.ok).1 p hp) (Nat.le_succ _)
    · obtain ⟨q1, q2⟩ := S.ok_memAll hst.ok p hp
      exact ⟨Nat.lt_succ_of_lt q1, Ob.lt_mono q2 (Nat.le_succ _)⟩
  refine calls_of_vc hti k1 k2 k3 rfl rfl h hst' (fun e σ hq => finI_exit hq) fun e g' τ a' w' hq hst2 => ?_
  obtain ⟨l2, sz, sl, r1, r2, r3, hK⟩ := finI_ok hq
  obtain ⟨u, hres, hu⟩ := res_ok hti hst2 r1
  have hleave : Inv κ g' (kills σ.nx τ.mem) w' := hst2.inv.leave rfl rfl rfl (fun D hD => hD) (fun n hn => if_neg hn) (fun _ _ _ _ _ _ _ _ => rfl)
  refine ⟨u, hres, u, rfl, hn g' _ _ _ hK ?_⟩
  exact St.back (d := 0) hst2 r3 hst.size hst.defers (if_pos rfl) hleave hd hu (resV_lt (resL_lt hst2.ok r1) r2)
end
end Go.Sy

/- Ranges over functions: the statement, and the round where the iterator hands a value on. Conditions: none. -/
namespace Go.Sy
set_option linter.unusedVariables false
set_option linter.unusedSimpArgs false

section
variable {P : Program} {ti : Nat → Option Ty} {N : Nat}

theorem Inv.blt {κ : Ctx} {g : Gh} {mem : List (Nat × Ob)} {w : World} (hi : Inv κ g mem w) {n : Nat} (h : On g mem n) : g.blk n < w.heap.size := by
  have lt_of : ∀ {x : Obj}, w.heap[g.blk n]? = some x → g.blk n < w.heap.size := fun h => by
    rcases Nat.lt_or_ge (g.blk n) w.heap.size with h' | h'
    · exact h'
    · rw [Array.getElem?_eq_none h'] at h; cases h
  unfold On at h
  cases hl : look n mem with
  | none => rw [hl] at h; exact h.elim
  | some ob =>
    have hob := hi.obs n ob hl
    rw [hl] at h
    cases ob with
    | cells => obtain ⟨a', T', e1, _⟩ := hob; exact lt_of e1
    | tail => obtain ⟨a', T', e1, _⟩ := hob.1 h; exact lt_of e1
    | vec => obtain ⟨a', e1, _⟩ := hob.2.2 h; exact lt_of e1
    | tag => exact h.elim
    | frame => exact h.elim
    | loop => obtain ⟨_, fn, D, e⟩ := hob; exact lt_of e

/-- The record of a range is written. -/
theorem Inv.reLoop {κ : Ctx} {g : Gh} {mem : List (Nat × Ob)} {w : World} {n k : Nat} {ps : Array Nat} {asg body : Code} {st : LoopState} {pd : Option Code} {o : Obj} {ob : Ob} (hi : Inv κ g mem w) (hm : look n mem = some (.loop k ps asg body st pd)) (hob : ObOK κ g (w.putObj (g.blk n) o) n ob) :
    Inv κ g ((n, ob) :: mem) (w.putObj (g.blk n) o) := by
  obtain ⟨eb, fn, D0, hr⟩ := hi.obs n _ hm
  have hon : On g mem n := by unfold On; rw [hm]; trivial
  have on : ∀ m, On g ((n, ob) :: mem) m → On g mem m := fun m h => by
    by_cases hmn : m = n
    · subst hmn; exact hon
    · unfold On at h ⊢; rw [look_cons, if_neg hmn] at h; exact h
  refine ⟨fun b o' v h => ?_, fun m ob' hm' => ?_, fun m m' hmm h h' => hi.inj m m' hmm (on m h) (on m' h'), by rw [World.putObj_size]; exact hi.size, fun b hb hmod => ?_, fun m h => hi.own m (on m h), hi.f0, hi.fnew, hi.os, hi.tape, hi.output, fun x hx => ?_⟩
  · have hc := hi.frz b o' v h
    have hne : b ≠ g.blk n := by
      rintro rfl
      simp only [World.cell?, hr] at hc; cases hc
    simp only [World.cell?] at hc ⊢
    rw [World.putObj_heap_other hne]; exact hc
  · rw [look_cons] at hm'
    by_cases hmn : m = n
    · subst hmn
      rw [if_pos rfl] at hm'
      obtain rfl := Option.some.inj hm'
      exact hob
    · rw [if_neg hmn] at hm'
      have hob' := hi.obs m ob' hm'
      cases ob' with
      | cells size c =>
        have hne : g.blk m ≠ g.blk n := hi.inj m n hmn (by unfold On; rw [hm']; trivial) hon
        obtain ⟨arr, T, e1, er⟩ := hob'
        exact ⟨arr, T, by rw [World.putObj_heap_other hne]; exact e1, er⟩
      | tag k' t' =>
        obtain ⟨arr, fz, e⟩ := hob'
        exact ⟨arr, fz, by rw [World.putObj_heap_other (fun hb => by rw [hb, hr] at e; cases e)]; exact e⟩
      | vec t' sz' es' f' => exact VecOK.mono hob' (fun _ _ _ h => h) rfl rfl rfl rfl (fun hh => World.putObj_heap_other (hi.inj m n hmn (by unfold On; rw [hm']; exact hh) hon)) (fun _ _ h => h)
      | tail =>
        refine ⟨fun hh => ?_, hob'.2⟩
        have hne : g.blk m ≠ g.blk n := hi.inj m n hmn (by unfold On; rw [hm']; exact hh) hon
        obtain ⟨arr, T, e1, er⟩ := hob'.1 hh
        exact ⟨arr, T, by rw [World.putObj_heap_other hne]; exact e1, er⟩
      | frame sz l => exact hob'
      | loop k ps asg body st pd =>
        have hne : g.blk m ≠ g.blk n := hi.inj m n hmn (by unfold On; rw [hm']; trivial) hon
        obtain ⟨eb', fn', D', e⟩ := hob'
        exact ⟨eb', fn', D', by rw [World.putObj_heap_other hne]; exact e⟩
  · have hne : b ≠ g.blk n := by
      rintro rfl
      rcases hi.own n hon with h | h
      · omega
      · exact hmod h
    rw [World.putObj_heap_other hne]; exact hi.pres b hb hmod
  · have hD := hi.dfr x hx
    have hne : x ≠ g.blk n := by
      rintro rfl
      rw [hr] at hD; cases hD
    rw [World.putObj_heap_other hne]; exact hD

/-- The record of a range is laid. -/
theorem Inv.newLoop {κ : Ctx} {g : Gh} {mem : List (Nat × Ob)} {w : World} {n k D fn D0 : Nat} {ps : Array Nat} {asg body : Code} (hi : Inv κ g mem w) (hmem : ∀ m ob, look m mem = some ob → m ≠ n)
    (hw : w.heap[g.blk n]? = some (.loop { state := .ready, pending := none, fn := fn, tmps := κ.sv k, params := ps, assign := asg, body := body, defers := D0 })) (hD : w.heap[D]? = some (.deferred (some [])))
    (hfr : ∀ m, On g mem m → g.blk m ≠ g.blk n) (hown : κ.w0.heap.size ≤ g.blk n) :
    Inv { κ with dfb := D :: κ.dfb, lb := fun m => if m = n then g.blk n else κ.lb m } g ((n, .loop k ps asg body .ready none) :: mem) w := by
  have on : ∀ m, m ≠ n → On g ((n, .loop k ps asg body .ready none) :: mem) m → On g mem m := fun m hmn h => by
    unfold On at h ⊢; rw [look_cons, if_neg hmn] at h; exact h
  refine ⟨hi.frz, fun m ob hm => ?_, fun m m' hmm h h' => ?_, hi.size, hi.pres, fun m h => ?_, hi.f0, hi.fnew, hi.os, hi.tape, hi.output, fun x hx => ?_⟩
  · rw [look_cons] at hm
    by_cases hmn : m = n
    · subst hmn
      rw [if_pos rfl] at hm
      obtain rfl := Option.some.inj hm
      exact ⟨(if_pos rfl).symm, fn, D0, hw⟩
    · rw [if_neg hmn] at hm
      have hob := hi.obs m ob hm
      cases ob with
      | cells => exact hob
      | vec => exact hob
      | tail => exact hob
      | tag => exact hob
      | frame => exact hob
      | loop => exact ⟨hob.1.trans (if_neg hmn).symm, hob.2⟩
  · by_cases hmn : m = n
    · subst hmn
      exact fun e => hfr m' (on m' (Ne.symm hmm) h') e.symm
    · by_cases hmn' : m' = n
      · subst hmn'; exact hfr m (on m hmm h)
      · exact hi.inj m m' hmm (on m hmn h) (on m' hmn' h')
  · by_cases hmn : m = n
    · subst hmn; exact .inl hown
    · exact hi.own m (on m hmn h)
  · rcases List.mem_cons.1 hx with rfl | hx
    · exact hD
    · exact hi.dfr x hx

/-- The end of the function that is ranged over. -/
def finR (ti : Nat → Option Ty) (rs : List ResultVar) (k n : Nat) (Q : Exit → S → Prop) : Exit → S → Prop
  | .ret, σ | .normal, σ => match resL ti rs σ with
    | some _ => match look n σ.mem with
      | some (.loop _ _ _ _ st pd) => match look k σ.mem with
        | some (.frame _ sl) => match st with
          | .busy => False
          | _ => match pd with
            | none => Q .normal ⟨sl, kills k ((n, .frame 0 []) :: σ.mem), σ.nx⟩
            | some .ret => Q .ret ⟨sl, kills k ((n, .frame 0 []) :: σ.mem), σ.nx⟩
            | some (.exit id) => Q (.exit id) ⟨sl, kills k ((n, .frame 0 []) :: σ.mem), σ.nx⟩
            | _ => False
        | _ => False
      | _ => False
    | none => False
  | _, _ => False

/-- What is asked by the way in which the range is left. -/
def jumpQ (Q : Exit → S → Prop) : Option Code → S → Prop
  | none => Q .normal
  | some .ret => Q .ret
  | some (.exit id) => Q (.exit id)
  | _ => fun _ => False

theorem finR_ok {rs : List ResultVar} {k n : Nat} {Q : Exit → S → Prop} {e : Exit} {σ : S} (h : finR ti rs k n Q e σ) : (e = .ret ∨ e = .normal) ∧ ∃ l k' ps asg body st pd sz sl, resL ti rs σ = some l ∧ look n σ.mem = some (.loop k' ps asg body st pd) ∧ look k σ.mem = some (.frame sz sl) ∧ st ≠ .busy ∧ jumpQ Q pd ⟨sl, kills k ((n, .frame 0 []) :: σ.mem), σ.nx⟩ := by
  have he : e = .ret ∨ e = .normal := by
    cases e with
    | ret => exact .inl rfl
    | normal => exact .inr rfl
    | _ => exact h.elim
  refine ⟨he, ?_⟩
  have h' : (match resL ti rs σ with
    | some _ => match look n σ.mem with
      | some (.loop _ _ _ _ st pd) => match look k σ.mem with
        | some (.frame _ sl) => match st with
          | .busy => False
          | _ => match pd with
            | none => Q .normal ⟨sl, kills k ((n, .frame 0 []) :: σ.mem), σ.nx⟩
            | some .ret => Q .ret ⟨sl, kills k ((n, .frame 0 []) :: σ.mem), σ.nx⟩
            | some (.exit id) => Q (.exit id) ⟨sl, kills k ((n, .frame 0 []) :: σ.mem), σ.nx⟩
            | _ => False
        | _ => False
      | _ => False
    | none => False) := by rcases he with rfl | rfl <;> exact h
  split at h'
  · rename_i l hl
    split at h'
    · rename_i k' ps asg body st pd hn
      split at h'
      · rename_i sz sl hk
        split at h'
        · exact h'.elim
        · rename_i hst
          refine ⟨l, k', ps, asg, body, st, pd, sz, sl, hl, hn, hk, hst, ?_⟩
          split at h'
          · exact h'
          · exact h'
          · exact h'
          · exact h'.elim
      · exact h'.elim
    · exact h'.elim
  · exact h'.elim

/-- **A range over a function.** -/
theorem RangeS.intro {f N' : Nat} {rs : List ResultVar} {c asg body : Code} {gop : Operand} {ps : Array Tmp} {first cap : List AV} {σ : S} {Q : Exit → S → Prop} (hti : TiOK P ti) (hf : FnI P f N' rs c) (hg : ρ σ.sl gop = some (.fn (.func f) first cap)) (hlen : Nat.ble (first.length + 1 + cap.length) N' = true)
    (h : vc P ti N' c (finR ti rs σ.nx (σ.nx + 1) Q) ⟨idx 0 (first ++ [.yld (σ.nx + 1)] ++ cap), (σ.nx + 1, .loop σ.nx ps asg body .ready none) :: (σ.nx, .frame (N + 1) σ.sl) :: σ.mem, σ.nx + 2⟩) : RangeS P ti N gop ps asg body Q σ := by
  refine ⟨fun κ g a w hr hst => ?_⟩
  have hrd : κ.rd = none := by
    rcases hr with h | h
    · exact h
    · simp [noRange] at h
  obtain ⟨fn, k1, k2, k3, rfl⟩ := hf.ex
  have hlen' := Nat.le_of_ble_eq_true hlen
  have hxv := ρ_ok hst.sl hg
  have hxl := ρ_lt hst.ok hg
  generalize hev : a.eval gop = q at hxv
  cases hxv with | fn _ _ _ vs ws h1 h2 h3 h4 => ?_
  simp only [AV.lt, AV.lt2, AV.lt1, List.all_eq_true, Bool.and_eq_true] at hxl
  rw [hrd]
  refine wpIn_rangeFunc fun fid _ => ?_
  let D := w.heap.size
  let w1 : World := (w.alloc (.deferred (some []))).alloc (.loop { state := .ready, pending := none, fn := fid, tmps := a.tmps, params := ps, assign := asg, body := body, defers := w.heap.size })
  have hw1 : w1.heap = (w.heap.push (.deferred (some []))).push (.loop { state := .ready, pending := none, fn := fid, tmps := a.tmps, params := ps, assign := asg, body := body, defers := w.heap.size }) := rfl
  let args : Array Value := vs ++ #[Value.func (.yield (w.heap.size + 1)) #[] #[]] ++ ws
  refine ⟨w.heap.size + 1, [mark D], w1, { target := .fn (.func f) ws, args := vs ++ #[Value.func (.yield (w.heap.size + 1)) #[] #[]] }, w1, f, args, w1, run_enterLoop_outer fid a.tmps ps asg body, ?_, fun _ _ => trivial, hf.call _ _, (fun hd => by simp [wd] at hd), ?_⟩
  · have : a.eval (.const (.func (.yield (w.heap.size + 1)) #[] #[])) = .func (.yield (w.heap.size + 1)) #[] #[] := rfl
    simp [resolve, rangeCall, hev, Deferred.ofValue, this]
  let k := σ.nx
  let n := σ.nx + 1
  let g1 : Gh := { g with blk := fun m => if m = n then w.heap.size + 1 else g.blk m }
  have he : Ext σ.nx g g1 := ⟨fun _ _ _ h => h, fun m hm => if_neg (by show m ≠ σ.nx + 1; omega), fun _ _ => rfl, fun _ _ => rfl, fun _ _ => rfl⟩
  have hb1 : g1.blk n = w.heap.size + 1 := if_pos rfl
  have hold : ∀ b o v, g.F b o = some v → b < w.heap.size := fun b o v h => World.block_lt_of_cell? w ⟨b, o, none⟩ (hst.inv.frz b o v h)
  have hheap : ∀ b, b < w.heap.size → w1.heap[b]? = w.heap[b]? := fun b hb => by
    rw [hw1, Array.getElem?_push, if_neg (by simp; omega), Array.getElem?_push, if_neg (by omega)]
  have i1 : Inv κ g1 σ.mem w1 := hst.inv.grow (fun n ob hl => S.ok_mem hst.ok hl) he (by rw [hw1]; simp; omega) hheap (fun b o v h => .inl h) (fun b o v h => by
    have hc := hst.inv.frz _ _ _ h
    simp only [World.cell?] at hc ⊢
    rw [hheap _ (hold _ _ _ h)]; exact hc) rfl rfl rfl
  have i2 : Inv (κ.inn none k a.tmps) g1 ((k, .frame (N + 1) σ.sl) :: σ.mem) w1 := i1.enter none hst.ok hst.size fun s v hs => (hst.sl s v hs).ext he (S.ok_sl hst.ok hs)
  have hlt2 : ∀ m ob, look m ((k, Ob.frame (N + 1) σ.sl) :: σ.mem) = some ob → m ≠ n := fun m ob hm => by
    rw [look_cons] at hm
    by_cases hmk : m = k
    · subst hmk; show σ.nx ≠ σ.nx + 1; omega
    · rw [if_neg hmk] at hm
      have := (S.ok_mem hst.ok hm).1
      show m ≠ σ.nx + 1; omega
  have i3 := i2.newLoop (n := n) (k := k) (D := D) (fn := fid) (D0 := w.heap.size) (ps := ps) (asg := asg) (body := body) hlt2 (by
      rw [hb1, hw1, show (κ.inn none k a.tmps).sv k = a.tmps from if_pos rfl, Array.getElem?_push, if_pos (by simp)])
    (by rw [hw1, Array.getElem?_push, if_neg (by simp [D]), Array.getElem?_push, if_pos rfl])
    (fun m hm => by
      have hm' : On g1 σ.mem m := by
        unfold On at hm ⊢
        rw [look_cons] at hm
        by_cases hmk : m = k
        · rw [if_pos hmk] at hm; exact hm.elim
        · rw [if_neg hmk] at hm; exact hm
      have hmo : On g σ.mem m := hm'
      have hmn : m < σ.nx := by
        unfold On at hmo
        cases hl : look m σ.mem with
        | none => rw [hl] at hmo; exact hmo.elim
        | some ob => exact (S.ok_mem hst.ok hl).1
      have := hst.inv.blt hmo
      rw [hb1, he.blk m hmn]; omega)
    (by rw [hb1]; show κ.w0.heap.size ≤ _; have := hst.inv.size; omega)
  refine callsIn_wd ?_
  have hlt0 : ∀ {v : AV} {m : Nat}, v.lt0 σ.nx = true → σ.nx ≤ m → v.lt m = true := fun {v m} h hm => by
    have : v.lt σ.nx = true := by cases v <;> first | exact h | cases h
    exact AV.lt_mono this hm
  have hst' : St { κ.inn none k a.tmps with dfb := D :: κ.dfb, lb := fun m => if m = n then g1.blk n else κ.lb m } N' g1 ⟨idx 0 (first ++ [.yld n] ++ cap), (n, .loop k ps asg body .ready none) :: (k, .frame (N + 1) σ.sl) :: σ.mem, σ.nx + 2⟩ { tmps := args ++ Array.replicate (fn.ntmps - args.size) undef, defers := [] } w1 := by
    rw [k3]
    refine St.args i3 rfl (by simp only [List.length_append, List.length_cons, List.length_nil]; omega) (by simp only [args, Array.size_append, h1, h2, List.length_append, List.length_cons, List.length_nil]; rfl) (fun j hj => ?_) (S.ok_iff.2 ⟨fun p hp => ?_, fun p hp => ?_⟩)
    · have hj' : j < first.length + 1 + cap.length := by simpa only [List.length_append, List.length_cons, List.length_nil, Nat.zero_add] using hj
      by_cases c1 : j < first.length
      · have e1 : (first ++ [AV.yld n] ++ cap)[j] = first[j] := by
          rw [List.getElem_append_left (by simp; omega), List.getElem_append_left c1]
        have e2 : args.getD j undef = vs.getD j undef := by
          simp only [args, Array.getD_eq_getD_getElem?]
          rw [Array.getElem?_append_left (by simp; omega), Array.getElem?_append_left (by omega)]
        rw [e1, e2]; exact (h3 j c1).ext0 he (hxl.1 _ (List.getElem_mem c1))
      · by_cases c2 : j = first.length
        · subst c2
          have e1 : (first ++ [AV.yld n] ++ cap)[first.length] = .yld n := by
            rw [List.getElem_append_left (by simp), List.getElem_append_right (by omega)]; simp
          have e2 : args.getD first.length undef = .func (.yield (w.heap.size + 1)) #[] #[] := by
            simp only [args, Array.getD_eq_getD_getElem?]
            rw [Array.getElem?_append_left (by simp; omega), Array.getElem?_append_right (by omega)]
            simp [h1]
          rw [e1, e2, ← hb1]; exact .yld n
        · have e1 : (first ++ [AV.yld n] ++ cap)[j] = cap[j - first.length - 1]'(by omega) := by
            rw [List.getElem_append_right (by simp; omega)]
            simp only [List.length_append, List.length_cons, List.length_nil, Nat.sub_sub]
          have e2 : args.getD j undef = ws.getD (j - first.length - 1) undef := by
            simp only [args, Array.getD_eq_getD_getElem?]
            rw [Array.getElem?_append_right (by simp; omega)]
            simp [h1, Nat.sub_sub]
          rw [e1, e2]; exact (h4 _ (by omega)).ext0 he (hxl.2 _ (List.getElem_mem (by omega)))
    · have hp2 := idx_mem _ _ _ hp
      rcases List.mem_append.1 hp2 with hp2 | hp2
      · rcases List.mem_append.1 hp2 with hp2 | hp2
        · exact hlt0 (hxl.1 _ hp2) (by show σ.nx ≤ σ.nx + 2; omega)
        · simp only [List.mem_cons, List.not_mem_nil, or_false] at hp2
          rw [hp2]
          simp only [AV.lt, AV.lt2, AV.lt1, AV.lt0, Nat.blt_eq]
          show σ.nx + 1 < σ.nx + 2; omega
      · exact hlt0 (hxl.2 _ hp2) (by show σ.nx ≤ σ.nx + 2; omega)
    · rcases List.mem_cons.1 hp with rfl | hp
      · refine ⟨by show σ.nx + 1 < σ.nx + 2; omega, ?_⟩
        simp only [Ob.lt, Nat.blt_eq]
        show σ.nx < σ.nx + 2; omega
      rcases List.mem_cons.1 hp with rfl | hp
      · refine ⟨by show σ.nx < σ.nx + 2; omega, ?_⟩
        simp only [Ob.lt, List.all_eq_true]
        exact fun p hp => AV.lt_mono ((S.ok_iff.1 hst.ok).1 p hp) (by omega)
      · obtain ⟨q1, q2⟩ := S.ok_memAll hst.ok p hp
        exact ⟨by show p.1 < σ.nx + 2; omega, Ob.lt_mono q2 (by show σ.nx ≤ σ.nx + 2; omega)⟩
  refine calls_of_vc hti k1 k2 k3 rfl rfl h hst' (fun e σ hq => (finR_ok hq).1) fun e g' τ a' w' hq hst2 => ?_
  obtain ⟨_, l2, k', ps', asg', body', st, pd, sz, sl, r1, r2, r3, r4, hK⟩ := finR_ok hq
  obtain ⟨u, hres, hu⟩ := res_ok hti hst2 r1
  refine ⟨u, hres, ?_⟩
  obtain ⟨eb, fn', D', hloop⟩ := hst2.inv.obs _ _ r2
  have eb' : g'.blk n = w.heap.size + 1 := by
    rw [eb]
    show (if n = n then g1.blk n else κ.lb n) = _
    rw [if_pos rfl, hb1]
  rw [eb'] at hloop
  refine ⟨pd, _, run_endLoop hloop r4, ?_⟩
  have i4 := hst2.inv.reLoop (o := .loop { state := .exhausted, pending := pd, fn := fn', tmps := (κ.inn none k a.tmps).sv k', params := ps', assign := asg', body := body', defers := D' }) (ob := .frame 0 []) r2 ⟨(fun _ h => by cases h), (fun _ _ h => by cases h)⟩
  rw [eb'] at i4
  have hne : k ≠ n := by show σ.nx ≠ σ.nx + 1; omega
  have hlk : look k ((n, Ob.frame 0 []) :: τ.mem) = some (.frame sz sl) := by rw [look_cons, if_neg hne]; exact r3
  have hok4 : (S.mk τ.sl ((n, .frame 0 []) :: τ.mem) τ.nx).ok = true := by
    have := S.ok_iff.1 hst2.ok
    refine S.ok_iff.2 ⟨this.1, fun p hp => ?_⟩
    rcases List.mem_cons.1 hp with rfl | hp
    · exact ⟨(S.ok_mem hst2.ok r2).1, rfl⟩
    · exact this.2 p hp
  have hst4 : St { κ.inn none k a.tmps with dfb := D :: κ.dfb, lb := fun m => if m = n then g1.blk n else κ.lb m } N' g' ⟨τ.sl, (n, .frame 0 []) :: τ.mem, τ.nx⟩ a' _ := ⟨hst2.size, hst2.defers, hst2.sl, i4, hok4⟩
  have i5 : Inv (κ.add [D]) g' (kills k ((n, .frame 0 []) :: τ.mem)) _ := i4.leave rfl rfl rfl (fun x hx => hx) (fun m hm => if_neg hm) fun m k' ps asg body st pd hm => by
    by_cases hmn : m = n
    · subst hmn
      rw [look_cons, if_pos rfl] at hm; cases hm
    · exact if_neg hmn
  have hst5 := St.back (κ := κ.add [D]) (N := N) (a := { a with defers := mark D :: a.defers }) (od := none) (d := 0) (v := .d (.bl true)) (u := .bool true) hst4 hlk hst.size (by
      show mark D :: a.defers = _
      rw [hst.defers]; rfl) (if_pos rfl) i5 (fun _ h => by cases h) (.d _ _ (.bl _)) rfl
  have hfr : κ.fr [D] := ⟨List.nodup_cons.2 ⟨(by simp), List.nodup_nil⟩, fun x hx => by
    simp only [List.mem_cons, List.not_mem_nil, or_false] at hx
    subst hx
    refine ⟨fun hx => ?_, hst.inv.size⟩
    have := hst.inv.dfr D hx
    rw [Array.getElem?_eq_none (Nat.le_refl _)] at this; cases this⟩
  have fin : ∀ e, Q e ⟨sl, kills k ((n, .frame 0 []) :: τ.mem), τ.nx⟩ → Post κ N Q e { a with defers := mark D :: a.defers } _ := fun e hq => ⟨[D], g', _, hfr, hq, hst5⟩
  cases pd with
  | none => exact fin _ hK
  | some j =>
    cases j with
    | ret => exact wpIn_ret (fin _ hK)
    | exit id => exact wpIn_exit (fin _ hK)
    | _ => exact hK.elim
end
end Go.Sy

/- From a contract over data to what a law's row says. Conditions: none. -/
namespace Go.Sy
set_option linter.unusedVariables false
open Go.ChangeShapes Go.WideShapes Go.RowKit Go.ChangeAt

def g0 (w : World) : Gh := ⟨cellF w, fun _ => 0, fun _ => 0, fun _ => 0, fun _ => false⟩

/-- A law's contract, at a world and arguments that read so. -/
theorem FnC.enter {P : Program} {f : Nat} {args : List AV} {vs : Array Value} {w : World} (h : FnC P f args (.d (.bl true))) (hcall : (callFunc f vs).run P w = .ok (.enter f vs) w) (hsz : vs.size = args.length)
    (hav : ∀ (j : Nat) (hj : j < args.length), AVR (g0 w) args[j] (vs.getD j undef)) : Calls P f vs w fun e w' => e = .returned (.bool true) ∧ Below w.heap.size w w' := by
  rcases h.run (g0 w) w vs (fun b o v h => h) hsz hav with ⟨_, hC⟩ | ⟨v, w', hv, _⟩
  · refine hC.mono fun e w' ⟨v, g', he, hr, _, _, _, hs, hb, ho, ht, hout⟩ => ?_
    cases hr with | d _ _ hr => ?_
    cases hr
    exact ⟨he, ho, ht, hout, hs, hb⟩
  · rw [hcall] at hv; simp at hv

section
variable {H : Type} {enc : TypeId × Value → H} {P : Program} {ti : Nat → Option Ty}

/-- A struct argument, or an array. -/
theorem arg_agg (hti : TiOK P ti) {T : List Nat} (hT : closedB ti T = true) {t : Nat} (ht : t ∈ T) {w : World} {r : Reach} {b : Nat} {v : Value} {d : DataW H} {ps : List MemPlace} {ty : Ty} (hty : ti t = some ty) (hk : ty.kd.agg = true)
    (hv : Value.okWide P w r b t v) (h : DataW.Trod enc P w 0 (fun _ => true) true t v d ps) : ∃ n ds, Shp ti n t ds ∧ AVR (g0 w) (.dg ty.size ds) v := by
  obtain ⟨u, i, h'⟩ := tyOf_ok (hti _ _ hty)
  obtain ⟨n, hn⟩ := h
  obtain ⟨cs, rfl, hcs⟩ : ∃ cs, v = .agg cs ∧ cs.size = P.cellsOf t := by
    unfold Value.okWide at hv
    rw [h'.und] at hv
    cases u with
    | struct fs => obtain ⟨cs, h1, h2, _⟩ := hv; exact ⟨cs, h1, h2⟩
    | array n e => obtain ⟨cs, h1, h2, _⟩ := hv; exact ⟨cs, h1, h2⟩
    | _ => rw [← h'.kd] at hk; simp [kdOf, Kd.agg] at hk
  obtain ⟨ds, h1, h2, h3⟩ := trod_D hti hT n t ht _ _ hn
  have hsz : cs.size = ty.size := by rw [hcs, cellsOf_ti hti hty]
  have hcells : (Value.agg cs).cells = cs := rfl
  rw [hcells] at h1 h2
  refine ⟨n, ds, h3, .dg _ _ _ hsz (by rw [h1]; simpa using hsz) fun j hj => ?_⟩
  have := h2 j hj
  have e : cs.toList.getD j undef = cs.getD j undef := by
    rw [List.getD, Array.getD_eq_getD_getElem?]; simp
  rw [e] at this; exact this

/-- A bool, a number, a string, a slice. -/
theorem arg_one (hti : TiOK P ti) {T : List Nat} (hT : closedB ti T = true) {t : Nat} (ht : t ∈ T) {w : World} {r : Reach} {b : Nat} {v : Value} {d : DataW H} {ps : List MemPlace} {ty : Ty} (hty : ti t = some ty) (hk : ty.kd.agg = false)
    (hv : Value.okWide P w r b t v) (h : DataW.Trod enc P w 0 (fun _ => true) true t v d ps) : ∃ n x, Shp ti n t [x] ∧ AVR (g0 w) (.d x) v := by
  obtain ⟨u, i, h'⟩ := tyOf_ok (hti _ _ hty)
  obtain ⟨n, hn⟩ := h
  have hone : v.cells = #[v] := by
    have hc := List.all_eq_true.1 hT t ht
    rw [hty] at hc
    have hkd := h'.kd
    unfold Value.okWide at hv
    rw [h'.und] at hv
    cases u <;> simp only [kdOf] at hkd <;> rw [← hkd] at hk <;> first | (simp [Kd.agg] at hk; done) | skip
    all_goals obtain ⟨kd, a2, a3, a4, a5, a6⟩ := ty
    all_goals simp only at hkd
    all_goals subst hkd
    all_goals simp only at hc
    all_goals first | (cases hc; done) | skip
    all_goals cases v <;> first | rfl | (simp [Cell.okWide, h'.und, Cell.ok] at hv)
  obtain ⟨ds, h1, h2, h3⟩ := trod_D hti hT n t ht _ _ hn
  rw [hone] at h1 h2
  obtain ⟨x, rfl⟩ : ∃ x, ds = [x] := List.length_eq_one_iff.1 (by simpa using h1)
  exact ⟨n, x, h3, .d _ _ (h2 0 (by simp))⟩

theorem trodAll_stays (hl : laidOutB P = true) {W W' : World} (hb : Below W.heap.size W W') {sp : Nat → Bool} : ∀ {ts : List TypeId} {vs : List Value} {ds : List (DataW H)} {ps : List MemPlace}, DataW.TrodAll enc P W 0 (fun _ => true) true ts vs ds ps →
    (∀ t ∈ ts, P.readableRec t = true ∧ t < P.types.size) → (∀ p ∈ ps, p.block < W.heap.size) → (∀ p ∈ ps, sp p.block = true) → DataW.TrodAll enc P W' 0 sp true ts vs ds ps
  | [], _, _, _, h, _, _, _ => by
    obtain ⟨rfl, rfl, rfl⟩ := trodAll_nil h
    exact trodAll_mk0
  | t :: ts, _, _, _, h, hr, hlt, hsp => by
    obtain ⟨v, vs', d, ds', p, q, rfl, rfl, rfl, h1, h2⟩ := trodAll_cons h
    obtain ⟨r1, r2⟩ := hr t List.mem_cons_self
    refine ⟨p, q, WideElems.Trod_stays hl r1 r2 h1 (fun x hx => hb.same (hlt x (List.mem_append_left _ hx))) (fun x hx => hsp x (List.mem_append_left _ hx)), ?_, rfl⟩
    exact trodAll_stays hl hb h2 (fun t ht => hr t (List.mem_cons_of_mem _ ht)) (fun p hp => hlt p (List.mem_append_right _ hp)) (fun p hp => hsp p (List.mem_append_right _ hp))

/-- What a law's row says behind the call. -/
theorem law_post {f : Func} {s : ChangeSpec} {apart fresh handsOn again : Bool} {W W' : World} {args : Array Value} {ds gs : List (DataW H)} {before : List MemPlace} {tb : TypeId} (hW : DataW.Whole enc P f.params.toList s.vars apart W args.toList ds gs before)
    (hv : s.vars = []) (h1 : (s.fn H (ds ++ gs)).results = [.lit (.bool true)]) (h2 : (s.fn H (ds ++ gs)).args = ds) (h3 : (s.fn H (ds ++ gs)).vars = []) (hr : f.resultTypes = #[tb]) (hb : P.underlying tb = some .bool) (hl : laidOutB P = true)
    (hread : ∀ t ∈ f.params.toList, P.readableRec t = true ∧ t < P.types.size) (hB : Below W.heap.size W W') : s.post enc P f apart fresh handsOn again W args (.bool true) W' := by
  have hlt : ∀ p ∈ before, p.block < W.heap.size := fun p hp => hW.lt p hp
  have hold : ∀ p ∈ before, (fun b => decide (b < W.heap.size)) p.block = true := fun p hp => by simpa using hlt p hp
  have hW' := hW
  obtain ⟨p, q, hA, hV, rfl, hz, hn⟩ := hW
  rw [hv] at hV
  obtain ⟨rfl, rfl⟩ := trodVars_none hV
  simp only [List.append_nil] at *
  have hargs : ∀ sp : Nat → Bool, (∀ x ∈ p, sp x.block = true) → DataW.TrodAll enc P W' 0 sp true f.params.toList args.toList (s.fn H ds).args p := fun sp hsp => by
    rw [h2]; exact trodAll_stays hl hB hA hread hlt hsp
  have hvars : ∀ sp : Nat → Bool, (∀ x ∈ p, sp x.block = true) → DataW.TrodVars enc P W' sp s.vars (s.fn H ds).vars [] := fun sp _ => by rw [h3, hv]; rfl
  have hres : ∀ (b : Nat) (sp : Nat → Bool) (hd : Bool), DataW.TrodAll enc P W' b sp hd f.resultTypes.toList ((Value.bool true).resultList f.resultTypes.size) (s.fn H ds).results [] := fun b sp hd => by
    rw [h1, hr]; exact trodAll_mk1 (shut_bool hb true)
  have hok : ∀ (j : Nat) (t : TypeId) (r : Value), f.resultTypes[j]? = some t → ((Value.bool true).resultList f.resultTypes.size)[j]? = some r → Value.okWide P W' .any 0 t r :=
    ok_one hr rfl (okWide_bool_mk hb true)
  refine ⟨ds, [], p, [], p, [], by simpa using hW', by simpa using hres _ _ _, by simpa using hargs _ hold, by simpa using hvars _ hold, World.keptBut_mono (fun x hx => ⟨hx, ?_⟩) (hB.frame (· ∈ p)), fun _ => ?_⟩
  · exact Or.inr (by simpa using hx)
  · refine ⟨hok, _, _, ([] ++ p) ++ [], ⟨[] ++ p, [], trodAll_append (by simpa using hargs _ (fun _ _ => rfl)) (by simpa using hres _ _ _), by simpa using hvars _ (fun _ _ => rfl), rfl, ?_, ?_⟩, ?_⟩
    · intro b off hp
      have hin : MemPlace.cell b off ∈ p := by simpa using hp
      rw [hB.frozen (hlt _ hin)]
      exact hz b off hin
    · intro ha
      simpa using hn ha
    · intro x hx _
      simpa using hx
end

mutual
def litCells : DataW Unit → List Value
  | .lit (.bool b) => [.bool b]
  | .lit (.int k n) => [.int k n]
  | .lit (.string bytes) => [.string ⟨bytes.toArray⟩]
  | .agg parts => litCellsAll parts
  | _ => []
def litCellsAll : List (DataW Unit) → List Value
  | [] => []
  | d :: r => litCells d ++ litCellsAll r
end
/-- A world that holds what some variables are listed with (variable number, datum). -/
def laidHeap (h : Array Obj) (l : List (Nat × DataW Unit)) : Array Obj :=
  l.foldl (fun h p => h.modify p.1 fun | .cells _ t frozen => .cells (litCells p.2).toArray t frozen | o => o) h
end Go.Sy

/- The round: where an iterator hands a value on. Conditions: none. -/
namespace Go.Sy
set_option linter.unusedVariables false
set_option linter.unusedSimpArgs false

section
variable {P : Program} {ti : Nat → Option Ty} {N : Nat}

def putPs : List Nat → List AV → List (Nat × AV) → List (Nat × AV)
  | p :: ps, v :: vs, sl => putPs ps vs ((p, v) :: sl)
  | _, _, sl => sl

theorem putPs_ok {g : Gh} {N : Nat} : ∀ {ps : List Nat} {l : List AV} {sl : List (Nat × AV)} {vs : List Value} {t : Array Value}, ps.all (fun p => Nat.blt p N) = true → ps.length = l.length → vs.length = l.length → (∀ j (h : j < l.length) (h' : j < vs.length), AVR g l[j] vs[j]) → t.size = N →
    (∀ s v, look s sl = some v → AVR g v (t.getD s undef)) → ((ps.zip vs).foldl (fun t (p, v) => t.setIfInBounds p v) t).size = N ∧ ∀ s v, look s (putPs ps l sl) = some v → AVR g v (((ps.zip vs).foldl (fun t (p, v) => t.setIfInBounds p v) t).getD s undef)
  | [], l, sl, vs, t, _, h1, h2, _, ht, hs => by
    obtain rfl := List.length_eq_zero_iff.1 h1.symm
    exact ⟨ht, hs⟩
  | p :: ps, [], sl, vs, t, _, h1, _, _, _, _ => by cases h1
  | p :: ps, v :: l, sl, [], t, _, _, h2, _, _, _ => by cases h2
  | p :: ps, v :: l, sl, u :: vs, t, hp, h1, h2, hv, ht, hs => by
    simp only [List.all_cons, Bool.and_eq_true, Nat.blt_eq] at hp
    refine putPs_ok (ps := ps) (l := l) (sl := (p, v) :: sl) (vs := vs) (t := t.setIfInBounds p u) hp.2 (by simpa using h1) (by simpa using h2) (fun j h h' => hv (j + 1) (by simpa using h) (by simpa using h')) (by simp [ht]) fun s x hx => ?_
    rw [getD_set _ _ _ _ (by omega)]
    rw [look_cons] at hx
    by_cases hsp : s = p
    · rw [if_pos hsp] at hx ⊢
      obtain rfl := Option.some.inj hx
      exact hv 0 (by simp) (by simp)
    · rw [if_neg hsp] at hx ⊢
      exact hs s x hx

theorem putPs_lt {m : Nat} : ∀ {ps : List Nat} {l : List AV} {sl : List (Nat × AV)}, (∀ v ∈ l, v.lt m = true) → (∀ p ∈ sl, p.2.lt m = true) → ∀ p ∈ putPs ps l sl, p.2.lt m = true
  | [], l, sl, _, hs => hs
  | p :: ps, [], sl, _, hs => hs
  | p :: ps, v :: l, sl, hl, hs => putPs_lt (ps := ps) (fun v hv => hl v (List.mem_cons_of_mem _ hv)) fun q hq => by
    rcases List.mem_cons.1 hq with rfl | hq
    · exact hl v List.mem_cons_self
    · exact hs q hq

/-- How a round's end leaves the range. -/
def jumpOf : Exit → Option (Option Code)
  | .normal => some none
  | .ret => some (some .ret)
  | .exit id => some (some (.exit id))
  | _ => none

def endY (j : Option Code) : LoopState := match j with
  | none => .ready
  | some _ => .done
def isN (j : Option Code) : Bool := match j with
  | none => true
  | some _ => false

def finY (k2 n : Nat) (d : Option Nat) (K : S → Prop) (e : Exit) (σ : S) : Prop :=
  match jumpOf e with
  | some j => match look n σ.mem with
    | some (.loop k ps asg body _ _) => match look k2 σ.mem with
      | some (.frame _ sl) => K (S.put ⟨sl, kills k2 ((n, .loop k ps asg body (endY j) j) :: σ.mem), σ.nx⟩ d (.d (.bl (isN j))))
      | _ => False
    | _ => False
  | none => False

def begY (P : Program) (ti : Nat → Option Ty) (N n : Nat) (body : Code) (Q : Exit → S → Prop) : Exit → S → Prop
  | .normal, σ => match look n σ.mem with
    | some (.loop k ps asg body' .ready pd) => vc P ti N body Q ⟨σ.sl, (n, .loop k ps asg body' .busy pd) :: σ.mem, σ.nx⟩
    | _ => False
  | _, _ => False

theorem finY_ok {k2 n : Nat} {d : Option Nat} {K : S → Prop} {e : Exit} {σ : S} (h : finY k2 n d K e σ) : ∃ j k ps asg body st pd sz sl, jumpOf e = some j ∧ look n σ.mem = some (.loop k ps asg body st pd) ∧ look k2 σ.mem = some (.frame sz sl) ∧
    K (S.put ⟨sl, kills k2 ((n, .loop k ps asg body (endY j) j) :: σ.mem), σ.nx⟩ d (.d (.bl (isN j)))) := by
  unfold finY at h
  split at h
  · rename_i j hj
    split at h
    · rename_i k ps asg body st pd hn
      split at h
      · rename_i sz sl hk
        exact ⟨j, k, ps, asg, body, st, pd, sz, sl, hj, hn, hk, h⟩
      · exact h.elim
    · exact h.elim
  · exact h.elim

theorem roundPost_of {l : Nat} {R : Ending → World → Prop} {e : Exit} {j : Option Code} {a : Act} {w : World} (hj : jumpOf e = some j) (h : ∃ v w', (Instr.endRound l j).run P w = .ok v w' ∧ R (.returned v) w') : roundPost P l R e a w := by
  cases e with
  | normal => obtain rfl := Option.some.inj hj; exact h
  | ret => obtain rfl := Option.some.inj hj; exact h
  | exit id => obtain rfl := Option.some.inj hj; exact h
  | _ => cases hj

/-- **A round**: the iterator's yield. -/
theorem YieldI.intro {N' n k : Nat} {o : Oper} {σ : S} {l : List AV} {K : S → Prop} {ps : Array Nat} {asg body : Code} {pd : Option Code} {sl' : List (Nat × AV)} (hti : TiOK P ti) (hm : look n σ.mem = some (.loop k ps asg body .ready pd)) (hk : look k σ.mem = some (.frame (N' + 1) sl'))
    (hps : (Nat.beq ps.toList.length l.length && ps.toList.all (fun p => Nat.blt p N') && (noRange asg && noRange body)) = true)
    (h : vc P ti N' asg (begY P ti N' n body (finY σ.nx n o.dst K)) ⟨putPs ps.toList l sl', (σ.nx, .frame (N + 1) σ.sl) :: σ.mem, σ.nx + 1⟩) : YieldI P N o σ n l K := by
  refine ⟨fun ⟨⟨x, xs, ats, hop, hx, hl⟩, hd⟩ κ g a w hst next Q hn => ?_⟩
  simp only [Bool.and_eq_true] at hps
  obtain ⟨⟨p1, p2⟩, p3, p4⟩ := hps
  have p1' := Nat.eq_of_beq_eq_true p1
  have hxv := ρ_ok hst.sl hx
  generalize hev : a.eval x = q at hxv
  cases hxv with | yld => ?_
  obtain ⟨a1, a2⟩ := argsA_ok (g := g) (a := a) hl (fun y _ v hv => ρ_ok hst.sl hv)
  obtain ⟨eb, fn, D, hloop⟩ := hst.inv.obs _ _ hm
  have hfr := hst.inv.obs _ _ hk
  have hfrl := (S.ok_mem hst.ok hk).2
  simp only [Ob.lt, List.all_eq_true] at hfrl
  have hargs : (xs.map a.eval).toList = xs.toList.map a.eval := by simp
  have hexec : (execOp a.eval o).run P w = .ok (.round (g.blk n) fn ((ps.zip (xs.map a.eval)).foldl (fun t (p, v) => t.setIfInBounds p v) (κ.sv k)) asg body) w := by
    have := run_yield (P := P) (args := xs.map a.eval) hloop (by
      show (xs.map a.eval).size = ps.size
      have : l.length = xs.size := by simpa using a1
      simp only [Array.size_map]
      have : ps.toList.length = ps.size := by simp
      omega)
    simp only [execOp, hop, resolve, hev, Deferred.ofValue, pure_bind, invoke]
    simpa using this
  refine ⟨fun _ _ => trivial, ?_⟩
  rw [semAt_of hexec (fun d hd => by cases hd)]
  refine ⟨fun hdp => by simp [wd] at hdp, roundIn_of_wpIn trivial ?_⟩
  have efold : (ps.zip (xs.map a.eval)).foldl (fun t (p, v) => t.setIfInBounds p v) (κ.sv k) = (ps.toList.zip (xs.toList.map a.eval)).foldl (fun t (p, v) => t.setIfInBounds p v) (κ.sv k) := by
    rw [← Array.foldl_toList, Array.toList_zip]
    simp
  rw [efold]
  obtain ⟨s1, s2⟩ := putPs_ok (g := g) (N := N') (ps := ps.toList) (l := l) (sl := sl') (vs := xs.toList.map a.eval) (t := κ.sv k) p2 p1' (by simp [a1]) (fun j h h' => by
    have := a2 j h (by simpa using h')
    simpa using this) (hfr.1 _ rfl) hfr.2
  have i1 : Inv (κ.inn (some (g.blk n)) σ.nx a.tmps) g ((σ.nx, .frame (N + 1) σ.sl) :: σ.mem) w := hst.inv.enter _ hst.ok hst.size hst.sl
  have hst1 : St (κ.inn (some (g.blk n)) σ.nx a.tmps) N' g ⟨putPs ps.toList l sl', (σ.nx, .frame (N + 1) σ.sl) :: σ.mem, σ.nx + 1⟩ { tmps := (ps.toList.zip (xs.toList.map a.eval)).foldl (fun t (p, v) => t.setIfInBounds p v) (κ.sv k), defers := [] } w := by
    refine ⟨s1, rfl, s2, i1, S.ok_iff.2 ⟨putPs_lt (fun v hv => ?_) (fun p hp => AV.lt_mono (hfrl p hp) (Nat.le_succ _)), fun p hp => ?_⟩⟩
    · obtain ⟨y, _, hy⟩ := argsA_mem hl hv
      exact AV.lt_mono (ρ_lt hst.ok hy) (Nat.le_succ _)
    · rcases List.mem_cons.1 hp with rfl | hp
      · refine ⟨Nat.lt_succ_self _, ?_⟩
        simp only [Ob.lt, List.all_eq_true]
        exact fun p hp => AV.lt_mono ((S.ok_iff.1 hst.ok).1 p hp) (Nat.le_succ _)
      · obtain ⟨q1, q2⟩ := S.ok_memAll hst.ok p hp
        exact ⟨Nat.lt_succ_of_lt q1, Ob.lt_mono q2 (Nat.le_succ _)⟩
  have hF : (wd κ.rd).inRound (g.blk n) = wd (some (g.blk n)) := rfl
  rw [hF]
  refine wpIn_mono (vc_sound hti asg _ _ h (κ.inn (some (g.blk n)) σ.nx a.tmps) g _ w (.inr p3) hst1) fun e a1 w1 ⟨l1, g1, σ1, hl1, hq, hst2⟩ => ?_
  cases e with
  | normal =>
    simp only [begY] at hq
    split at hq
    · rename_i k1 ps1 asg1 body1 pd1 hm1
      obtain ⟨eb1, fn1, D1, hloop1⟩ := hst2.inv.obs _ _ hm1
      have ebg : g1.blk n = g.blk n := eb1.trans eb.symm
      rw [ebg] at hloop1
      refine ⟨_, run_beginRound hloop1 rfl, ?_⟩
      let o1 : Obj := .loop { state := .busy, pending := pd1, fn := fn1, tmps := (κ.inn (some (g.blk n)) σ.nx a.tmps).sv k1, params := ps1, assign := asg1, body := body1, defers := D1 }
      have i2 := hst2.inv.reLoop (o := o1) (ob := .loop k1 ps1 asg1 body1 .busy pd1) hm1 ⟨eb1, fn1, D1, by
        have := hst2.inv.blt (n := n) (by unfold On; rw [hm1]; trivial)
        rw [World.putObj_heap_same this]; rfl⟩
      rw [ebg] at i2
      have hst3 : St ((κ.inn (some (g.blk n)) σ.nx a.tmps).add l1) N' g1 ⟨σ1.sl, (n, .loop k1 ps1 asg1 body1 .busy pd1) :: σ1.mem, σ1.nx⟩ a1 (w1.putObj (g.blk n) o1) := by
        refine ⟨hst2.size, hst2.defers, hst2.sl, i2, ?_⟩
        have hk1 := S.ok_mem hst2.ok hm1
        have := S.ok_iff.1 hst2.ok
        refine S.ok_iff.2 ⟨this.1, fun p hp => ?_⟩
        rcases List.mem_cons.1 hp with rfl | hp
        · exact hk1
        · exact this.2 p hp
      refine wpIn_mono (vc_sound hti body _ _ hq ((κ.inn (some (g.blk n)) σ.nx a.tmps).add l1) g1 a1 _ (.inr p4) hst3) fun e2 a2 w3 ⟨l2, g2, σ2, hl2, hq2, hst4⟩ => ?_
      obtain ⟨j, k3, ps3, asg3, body3, st3, pd3, sz, sl3, hj, hm3, hk3, hK⟩ := finY_ok hq2
      obtain ⟨eb3, fn3, D3, hloop3⟩ := hst4.inv.obs _ _ hm3
      have ebg3 : g2.blk n = g.blk n := eb3.trans eb.symm
      have hblt := hst4.inv.blt (n := n) (by unfold On; rw [hm3]; trivial)
      rw [ebg3] at hloop3
      refine roundPost_of hj ⟨_, _, run_endRound j hloop3, ?_⟩
      have ej : j.isNone = isN j := by cases j <;> rfl
      have est : (if j.isNone = true then LoopState.ready else LoopState.done) = endY j := by cases j <;> rfl
      rw [est, ej]
      let o2 : Obj := .loop { state := endY j, pending := j, fn := fn3, tmps := (κ.inn (some (g.blk n)) σ.nx a.tmps).sv k3, params := ps3, assign := asg3, body := body3, defers := D3 }
      have i5 := hst4.inv.reLoop (o := o2) (ob := .loop k3 ps3 asg3 body3 (endY j) j) hm3 ⟨eb3, fn3, D3, by
        rw [World.putObj_heap_same hblt]; rfl⟩
      rw [ebg3] at i5
      have hne : σ.nx ≠ n := by have := (S.ok_mem hst.ok hm).1; omega
      have hok5 : (S.mk σ2.sl ((n, .loop k3 ps3 asg3 body3 (endY j) j) :: σ2.mem) σ2.nx).ok = true := by
        have hk1 := S.ok_mem hst4.ok hm3
        have := S.ok_iff.1 hst4.ok
        refine S.ok_iff.2 ⟨this.1, fun p hp => ?_⟩
        rcases List.mem_cons.1 hp with rfl | hp
        · exact hk1
        · exact this.2 p hp
      have hst5 : St (((κ.inn (some (g.blk n)) σ.nx a.tmps).add l1).add l2) N' g2 ⟨σ2.sl, (n, .loop k3 ps3 asg3 body3 (endY j) j) :: σ2.mem, σ2.nx⟩ a2 (w3.putObj (g.blk n) o2) := ⟨hst4.size, hst4.defers, hst4.sl, i5, hok5⟩
      have i6 : Inv κ g2 (kills σ.nx ((n, .loop k3 ps3 asg3 body3 (endY j) j) :: σ2.mem)) (w3.putObj (g.blk n) o2) := i5.leave rfl rfl rfl (fun x hx => List.mem_append_right _ (List.mem_append_right _ hx)) (fun m hm => if_neg hm) fun _ _ _ _ _ _ _ _ => rfl
      exact hn g2 _ _ _ hK (St.back (d := 0) hst5 (by rw [look_cons, if_neg hne]; exact hk3) hst.size hst.defers (if_pos rfl) i6 hd (.d _ _ (.bl _)) rfl)
    · exact hq.elim
  | _ => exact hq.elim
end
end Go.Sy

/- A loop, unrolled. Conditions: none. -/
namespace Go.Sy
set_option linter.unusedVariables false
section
variable {P : Program} {ti : Nat → Option Ty} {N : Nat}
/-- So many rounds at most. -/
def vcR (P : Program) (ti : Nat → Option Ty) (N : Nat) (body : Code) (Q : Exit → S → Prop) : Nat → S → Prop
  | 0, _ => False
  | n + 1, σ => vc P ti N body (fun e σ' => match e with | .normal => vcR P ti N body Q n σ' | e => Q e σ') σ

theorem LoopS.unroll {body : Code} {Q : Exit → S → Prop} {σ : S} (hti : TiOK P ti) (n : Nat) (h : vcR P ti N body Q n σ) : LoopS P N body Q σ := by
  refine ⟨fun κ g a w hr hst => wpIn_loop_rounds n ?_⟩
  have key : ∀ n (σ : S) (κ : Ctx) g a w, (κ.rd = none ∨ noRange body = true) → vcR P ti N body Q n σ → St κ N g σ a w → Code.roundsIn (wd κ.rd) 0 P body (Post κ N Q) n a w := by
    intro n
    induction n with
    | zero => intro σ κ g a w _ h; exact h.elim
    | succ n ih =>
      intro σ κ g a w hr h hst
      rw [roundsIn_succ]
      refine wpIn_mono (vc_sound hti body _ σ h κ g a w hr hst) fun e a' w' ⟨l, g', σ', hl, hq, hst'⟩ => ?_
      cases e with
      | normal => exact roundsIn_mono (fun e a w hp => hp.app hl) n a' w' (ih σ' (κ.add l) g' a' w' hr hq hst')
      | _ => exact ⟨l, g', σ', hl, hq, hst'⟩
  exact key n σ κ g a w hr h hst
end
end Go.Sy
namespace Go.Sy
section
variable {P : Program} {ti : Nat → Option Ty} {N : Nat}
/-- A native function that hands its argument back. -/
theorem CallI.ident {f : Nat} {o : Oper} {σ : S} {v : AV} {l : List AV} {K : S → Prop} (hf : ∀ (u : Value) (w : World), (callFunc f #[u]).run P w = .ok (.value u) w) (hl1 : l = [v]) (h : K (σ.put o.dst v)) : CallI P N o σ f l K := by
  subst hl1
  refine ⟨fun ⟨⟨x, xs, ats, first, cap, l', hop, hx, hl, hll⟩, hd⟩ κ g a w hst next Q hn => ?_⟩
  obtain ⟨vs, ws, hev, hsz, hav⟩ := call_vals hst hx hl
  have hlt := call_lt hst.ok hx hl
  rw [← hll] at hsz hlt
  have hav0 := hav 0 (by rw [← hll]; simp)
  obtain ⟨u, hu⟩ : ∃ u, vs ++ xs.map a.eval ++ ws = #[u] := by
    generalize vs ++ xs.map a.eval ++ ws = z at hsz
    obtain ⟨l⟩ := z
    match l, hsz with
    | [u], _ => exact ⟨u, rfl⟩
  have hv : AVR g v u := by
    have e : (first ++ l' ++ cap)[0]'(by rw [← hll]; simp) = v := by simp only [← hll]; rfl
    rw [e, hu] at hav0
    exact hav0
  have hexec : (execOp a.eval o).run P w = .ok (.value u) w := by
    simp only [execOp, hop, resolve, hev, Deferred.ofValue, pure_bind, invoke, hu]
    exact hf u w
  refine wp_value hexec (hn g _ _ _ h ?_)
  cases hdst : o.dst with
  | none => exact hst
  | some d => exact hst.put (hd d hdst) (.refl _ _) hst.inv hv (S.ok_cons hst.ok (Nat.le_refl _) (hlt v List.mem_cons_self) (S.ok_memAll hst.ok))
def bd (f : Func) : Code := match f.body with | some c => c | none => .skip
theorem FnI.mk' {f N' : Nat} {fn : Func} {rs : List ResultVar} (hf : P.funcs[f]? = some fn) (hb : fn.body.isSome = true) (hN : fn.ntmps = N') (hrs : fn.results.toList = rs) (hcall : ∀ (vs : Array Value) (w : World), (callFunc f vs).run P w = .ok (.enter f vs) w) : FnI P f N' rs (bd fn) := by
  refine ⟨⟨fn, hf, ?_, hN, hrs⟩, hcall⟩
  unfold bd
  cases hq : fn.body with
  | none => rw [hq] at hb; cases hb
  | some c => rfl
end
end Go.Sy
namespace Go.Sy
/-- Elements that are bytes. -/
structure IsB (es : List (List D)) (l : List UInt8) : Prop where
  eq : es = bytesD l
theorem IsB.nil : IsB [] [] := ⟨rfl⟩
theorem IsB.d (l : List UInt8) : IsB (bytesD l) l := ⟨rfl⟩
theorem IsB.app {a b : List (List D)} {x y : List UInt8} (h : IsB a x) (k : IsB b y) : IsB (a ++ b) (x ++ y) := ⟨by rw [h.eq, k.eq]; simp [bytesD]⟩
theorem IsB.one (c : UInt8) : IsB [[D.it .u8 c.toNat]] [c] := ⟨rfl⟩
theorem IsB.cons {t : List (List D)} {l : List UInt8} {n : Int} (c : UInt8) (hc : n = c.toNat) (h : IsB t l) : IsB ([D.it .u8 n] :: t) (c :: l) := ⟨by rw [h.eq, hc]; rfl⟩
theorem IsB.lit {t : List (List D)} {l : List UInt8} {n : Int} (hc : n = ((UInt8.ofNat n.toNat).toNat : Int)) (h : IsB t l) : IsB ([D.it .u8 n] :: t) (UInt8.ofNat n.toNat :: l) := .cons _ hc h
theorem str_auto {es : List (List D)} {l : List UInt8} {m : Int} {K : List UInt8 → Prop} (h : IsB es l) (hm : m = es.length) (h63 : l.length ≤ 9223372036854775807) (hK : K l) : ∃ l, (es = bytesD l ∧ m = l.length ∧ l.length ≤ 9223372036854775807) ∧ K l :=
  ⟨l, ⟨h.eq, by rw [hm, h.eq]; simp [bytesD], h63⟩, hK⟩
end Go.Sy
