/- Contracts of the functions that the law reaches, and the law. Conditions: none. -/
import Derived.Test.YtajeadkdacgldaaGreatDoorProg
import Derived.KernelRfl
import Derived.Shelf.LaysM
import Derived.Shelf.Small.Strs
import Derived.Shelf.Strings.Search1
import Derived.Shelf.Strings.Search2
import Derived.Shelf.Strings.Search3
import Derived.Laws.Externs
import Derived.WalkKit
import Derived.LoopTactic
import Derived.Laws.RangeAny
import Derived.Lib.OthersKept
import Derived.Deep.Draws
set_option linter.all false
/- Contracts of the library at this program (laid by the shelf tool), those that are used. Conditions: none. -/
namespace Go.Proofs
open Go.Shelf
def Tryz.lays144_ren : Go.Shelf.Ren := ⟨fun | 144 => 97 | 143 => 113 | 219 => 124 | 217 => 143 | 225 => 144 | 224 => 145 | 267 => 146 | 266 => 159 | 314 => 160 | n => n, fun | 9 => 9 | 4 => 4 | 3 => 3 | 5 => 5 | 46 => 132 | 146 => 227 | 51 => 226 | n => n, fun | 1 => 0 | n => n⟩
theorem Tryz.lays144 : Go.Proofs.Lays.n144 Tryz.prog Tryz.lays144_ren := {
  mixed := by kernel_rfl
  f143 := Tryz.func113.trans (congrArg some (by kernel_rfl))
  f144 := Tryz.func97.trans (congrArg some (by kernel_rfl))
  f217 := Tryz.func143.trans (congrArg some (by kernel_rfl))
  f219 := Tryz.func124.trans (congrArg some (by kernel_rfl))
  f224 := Tryz.func145.trans (congrArg some (by kernel_rfl))
  f225 := Tryz.func144.trans (congrArg some (by kernel_rfl))
  f266 := Tryz.func159.trans (congrArg some (by kernel_rfl))
  f267 := Tryz.func146.trans (congrArg some (by kernel_rfl))
  f314 := Tryz.func160.trans (congrArg some (by kernel_rfl))
  t3 := Tryz.underlying3
  a3 := Tryz.isAgg3
  z3 := Tryz.sizeOf3
  v3 := Tryz.zeroValue3
  t4 := Tryz.underlying4
  a4 := Tryz.isAgg4
  z4 := Tryz.sizeOf4
  v4 := Tryz.zeroValue4
  t5 := Tryz.underlying5
  a5 := Tryz.isAgg5
  z5 := Tryz.sizeOf5
  v5 := Tryz.zeroValue5
  t9 := Tryz.underlying9
  a9 := Tryz.isAgg9
  z9 := Tryz.sizeOf9
  v9 := Tryz.zeroValue9
  t46 := Tryz.underlying132
  a46 := Tryz.isAgg132
  z46 := Tryz.sizeOf132
  v46 := Tryz.zeroValue132
  t51 := Tryz.underlying226
  a51 := Tryz.isAgg226
  z51 := Tryz.sizeOf226
  v51 := Tryz.zeroValue226
  t146 := Tryz.underlying227
  a146 := Tryz.isAgg227
  z146 := Tryz.sizeOf227
  v146 := Tryz.zeroValue227
  g1 := by kernel_rfl }
open Go.RowKit Go.Lib in
/-- strings.Contains: "Contains reports whether substr is within s.": IT RETURNS 'Lib.contains s substr'; the world is as it was. (LAID: no walk: one application.) -/
theorem Tryz.strings_Contains (s sub : ByteArray) (m : Int) (w : World) (hs : s.size < 4294967281) (hm : w.cell? ⟨0, 0, none⟩ = some (.int .i64 m)) :
    Calls Tryz.prog 97 #[.string s, .string sub] w fun e w' => e = .returned (.bool (Lib.contains s.data.toList sub.data.toList)) ∧ w' = w := Any.strings_Contains Tryz.lays144 s sub m w hs hm
end Go.Proofs

/- The name a: the walk by the kit. Conditions: those named. -/
namespace Go.Proofs.YtajeadkdacgldaaGreatDoor
open Go.RowKit
def keysL : List UInt8 := [32, 112, 114, 111, 99, 32, 109, 97, 105, 110, 32, 114, 101, 99, 111, 118, 101, 114, 32, 111, 114, 97, 99, 108, 101, 32, 99, 114, 101, 97, 116, 101, 32, 109, 107, 100, 105, 114, 32, 119, 114, 105, 116, 101, 32, 97, 112, 112, 101, 110, 100, 32, 116, 114, 117, 110, 99, 97, 116, 101, 32, 114, 101, 110, 97, 109, 101, 32, 117, 110, 108, 105, 110, 107, 32, 102, 115, 121, 110, 99, 32, 102, 100, 97, 116, 97, 115, 121, 110, 99, 32, 115, 121, 110, 99, 100, 105, 114, 32, 98, 97, 114, 114, 105, 101, 114, 32, 108, 101, 116, 32, 105, 102, 32, 101, 108, 115, 101, 32, 114, 101, 112, 101, 97, 116, 32, 99, 97, 108, 108, 32, 116, 120, 110, 32, 99, 111, 109, 109, 105, 116, 32, 114, 101, 112, 108, 97, 121, 32, 97, 115, 115, 101, 114, 116, 32, 101, 120, 105, 115, 116, 115, 32, 115, 105, 122, 101, 32, 114, 101, 97, 100, 32, 110, 111, 116, 32, 97, 110, 100, 32, 111, 114, 32, 116, 114, 117, 101, 32, 102, 97, 108, 115, 101, 32]
set_option maxHeartbeats 8000000 in
set_option maxRecDepth 1000000 in
theorem lexRun_a (w : World) : Calls Tryz.prog 72 #[.string ⟨#[97]⟩, .func (.func 73) #[] #[]] w fun e w' => e = .returned (.string ⟨#[97]⟩) ∧ Below w.heap.size w w' := by
  have hmf : ∀ (fn : Fn) (first cap : Array Value) (w : World), (Instr.makeFunc fn first cap).run Tryz.prog w = .ok (.func fn first cap) w := fun _ _ _ _ => rfl
  go_enter Tryz.func72, Tryz.ntmps72
  go_wp2
  go_loopw [7] (fun _ wr => ∃ pos : Nat, pos ≤ 1 ∧ wr.heap[w.heap.size + 1]? = some (.stringIter ⟨#[97]⟩ pos) ∧ wr.heap[w.heap.size]? = some (.cells #[.func (.func 73) #[] #[]] 130) ∧ Below w.heap.size w wr) (fun _ wr => 1 - wr.iterPos (w.heap.size + 1))
  case atStart =>
    refine ⟨0, Nat.zero_le _, ?_, ?_, ((Below.refl _ w).alloc (Nat.le_refl _) _).alloc (by simp) _⟩
    · have := World.iter_heap (w.alloc (.cells #[.func (.func 73) #[] #[]] 130)) ⟨#[97]⟩ 0
      simpa using this
    · unfold World.iter
      exact (Lib.alloc_old (w.alloc (.cells #[.func (.func 73) #[] #[]] 130)) _ w.heap.size (by simp)).trans (heap_alloc_new _ _)
  case round =>
    obtain ⟨pos, hp1, hit, hcl, hb⟩ := hrel
    by_cases hp : pos < (⟨#[97]⟩ : ByteArray).size
    · have hnx : ∀ ty, (Instr.next (.pointer (some ⟨w.heap.size + 1, 0, none⟩)) true ty).run Tryz.prog wr = _ := fun ty => Lib.run_next_any_at wr (w.heap.size + 1) ⟨#[97]⟩ pos ty hit hp
      have hp0 : pos = 0 := by simp [ByteArray.size] at hp; omega
      subst hp0
      have hdec : Utf8.decode ⟨#[97]⟩ 0 = (97, 1) := by decide +kernel
      rw [hdec] at hnx
      have hc2 : (wr.iterAt (w.heap.size + 1) ⟨#[97]⟩ (0 + 1)).cell? ⟨w.heap.size, 0, none⟩ = some (.func (.func 73) #[] #[]) := by
        rw [Lib.cell_of_heap ((Lib.iterAt_other _ _ _ _ _ (by omega)).trans hcl)]; rfl
      have hi2 := Lib.iterAt_heap wr (w.heap.size + 1) ⟨#[97]⟩ 0 1 hit
      go_wp2
      refine ⟨⟨1, Nat.le_refl _, hi2, (Lib.iterAt_other _ _ _ _ _ (by omega)).trans hcl, Lib.below_iterAt hb (k := w.heap.size + 1) (by omega) _ _⟩, ?_⟩
      simp only [World.iterPos, hi2, hit]
      omega
    · have hnx : ∀ ty, (Instr.next (.pointer (some ⟨w.heap.size + 1, 0, none⟩)) true ty).run Tryz.prog wr = _ := fun ty => Lib.run_next_end_at wr (w.heap.size + 1) ⟨#[97]⟩ pos ty hit hp
      go_wp2
      go_ret
      exact ⟨rfl, hb⟩
theorem has1 : Lib.contains [97] [32] = false := by decide +kernel
set_option maxRecDepth 1000000 in
theorem has2 : Lib.contains keysL [32, 97, 32] = false := by decide +kernel
set_option maxHeartbeats 8000000 in
set_option maxRecDepth 1000000 in
theorem lexName_a (w : World) (m : Int) (hm : w.cell? ⟨0, 0, none⟩ = some (.int .i64 m)) (h0 : 0 < w.heap.size) : Calls Tryz.prog 50 #[.string ⟨#[97]⟩] w fun e w' => e = .returned (.bool true) ∧ Below w.heap.size w w' := by
  have hr := lexRun_a w
  have c1 := fun (w' : World) (h : Below w.heap.size w w') => Tryz.strings_Contains ⟨#[97]⟩ ⟨#[32]⟩ m w' (by decide) ((h.cell (p := ⟨0, 0, none⟩) h0).trans hm)
  have c2 := fun (w' : World) (h : Below w.heap.size w w') => Tryz.strings_Contains ⟨keysL.toArray⟩ ⟨#[32, 97, 32]⟩ m w' (by decide) ((h.cell (p := ⟨0, 0, none⟩) h0).trans hm)
  simp only [has1, has2] at c1 c2
  have hz : wrap32 (((⟨#[97]⟩ : ByteArray)[0]'(by decide)).toNat : Int) = 97 := by decide +kernel
  go_enter Tryz.func50, Tryz.ntmps50
  go_wp2_with (first
    | (go_at_call 72; refine hr.mono ?_; rintro e W1 ⟨rfl, b1⟩)
    | (go_at_call 97; refine (c1 _ (by assumption)).mono ?_; rintro e W2 ⟨rfl, rfl⟩)
    | (go_at_call 97; refine (c2 _ (by assumption)).mono ?_; rintro e W2 ⟨rfl, rfl⟩)
    | go_in)
  go_ret
  exact ⟨rfl, by assumption⟩
end Go.Proofs.YtajeadkdacgldaaGreatDoor
