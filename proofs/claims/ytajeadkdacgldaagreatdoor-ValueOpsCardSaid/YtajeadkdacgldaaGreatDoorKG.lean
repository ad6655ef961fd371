/- Contracts of the functions that the law reaches, and the law. Conditions: none. -/
import Derived.Test.YtajeadkdacgldaaGreatDoorKE
import Derived.Test.YtajeadkdacgldaaGreatDoorSD
import Derived.Test.YtajeadkdacgldaaGreatDoorSC
import Derived.Test.YtajeadkdacgldaaGreatDoorKD
import Derived.Test.YtajeadkdacgldaaGreatDoorKF
import Derived.Shelf.Vars
import Derived.Test.YtajeadkdacgldaaGreatDoorCards
import Derived.Test.YtajeadkdacgldaaGreatDoorTie
set_option linter.all false
/- A variable is set. Conditions: none. -/
namespace Go.Proofs.YtajeadkdacgldaaGreatDoor
open Go.Sy
set_option maxRecDepth 100000
set_option linter.all false
theorem set_nil (nm : List UInt8) (v : Vl) : FnC Tryz.prog 15 [.d (.fs 4 []), .d (.st nm), .dg 3 (encVl v)] (.d (.fs 4 [encVr ⟨nm, v⟩])) := by
  obtain ⟨k, n, s⟩ := v
  refine FnC.intro ti_ok Tryz.func15 rfl Tryz.ntmps15 Tryz.call15 rfl (Nat.le_of_ble_eq_true rfl) rfl ?_
  (repeat' ((conv=>whnf);first|with_reducible refine gA ?_|((with_reducible refine callE_id ?_); refine CallE.inl ?_) | ((with_reducible refine callI_id ?_); first | with_reducible refine CallI.inl ti_ok i29 rfl ?_ | with_reducible refine CallI.inl ti_ok i30 rfl ?_ | with_reducible refine CallI.inl ti_ok i42 rfl ?_ | with_reducible refine CallI.inl ti_ok i43 rfl ?_) | with_reducible refine LoopS.unroll ti_ok 2 ?_|(with_reducible first|refine gB ?_|refine gZ (fun x hx hu=>?_)|refine gY (fun x hx=>?_)|refine gE ?_|refine Both.mk ?_ ?_|refine gS (fun h=>?_) (fun h=>?_)|refine Spl.nt ?_|refine Spl.mk (fun h=>?_) (fun h=>?_))))
  all_goals rfl
theorem setV_at : ∀ (l : List Vr) (k : Nat) (nm : List UInt8) (v : Vl) (x : Vr), l[k]? = some x → x.nm = nm → (∀ y ∈ l.take k, y.nm ≠ nm) → setV l nm v = l.take k ++ [⟨nm, v⟩] ++ l.drop (k + 1)
  | [], k, nm, v, x, h, _, _ => by simp at h
  | y :: t, 0, nm, v, x, h, hx, _ => by
    simp only [List.getElem?_cons_zero, Option.some.injEq] at h
    subst h
    rw [setV, if_pos hx]; rfl
  | y :: t, k + 1, nm, v, x, h, hx, hn => by
    rw [List.getElem?_cons_succ] at h
    rw [List.take_succ_cons] at hn
    rw [setV, if_neg (hn y List.mem_cons_self), setV_at t k nm v x h hx (fun z hz => hn z (List.mem_cons_of_mem _ hz))]
    rfl
theorem setV_no : ∀ (l : List Vr) (nm : List UInt8) (v : Vl), (∀ y ∈ l, y.nm ≠ nm) → setV l nm v = l ++ [⟨nm, v⟩]
  | [], nm, v, _ => rfl
  | y :: t, nm, v, hn => by
    rw [setV, if_neg (hn y List.mem_cons_self), setV_no t nm v (fun z hz => hn z (List.mem_cons_of_mem _ hz))]; rfl
theorem setVq {k : Nat} : some (AV.vq 4 4 (Nat.add 0 ((k : Int)).toNat) 1) = some (AV.vq 4 4 k 1) := by rw [Int.toNat_natCast]; show some (AV.vq 4 4 (0 + k) 1) = _; rw [Nat.zero_add]
def setA (l : List Vr) (nm : List UInt8) (v : Vl) (k : Nat) : S := ⟨[(0, .vx 4 4 0 (l.map encVr).length), (1, .fn (.func 43) [] [.ptr 6 0]), (7, .d (.it .i64 ((l.map encVr).length : Nat))), (8, .d (.it .i64 (k : Nat)))],
  [(7, .frame 9 []), (6, .cells 1 [.d (.st nm)]), (5, .frame 29 [(1, .d (.st nm)), (5, .ptr 0 0), (7, .vx 4 4 0 (l.map encVr).length)]), (4, .vec 48 4 (l.map encVr) false), (0, .cells 3 ((encVl v).map AV.d))], 8⟩
set_option maxHeartbeats 4000000 in
theorem set_more (l : List Vr) (hl : l ≠ []) (h20 : l.length ≤ 1000) (nm : List UInt8) (v : Vl) : FnC Tryz.prog 15 [.d (.fs 4 (l.map encVr)), .d (.st nm), .dg 3 (encVl v)] (.d (.fs 4 ((setV l nm v).map encVr))) := by
  have hml : (l.map encVr).length = l.length := List.length_map ..
  have hne : (l.map encVr).isEmpty = false := by cases l with | nil => exact absurd rfl hl | cons => rfl
  refine FnC.introW ti_ok Tryz.func15 rfl Tryz.ntmps15 Tryz.call15 rfl (Nat.le_of_ble_eq_true rfl) rfl ?_
  (repeat' ((conv=>whnf);first|with_reducible refine gA ?_|((with_reducible refine callE_id ?_); refine CallE.inl ?_) | ((with_reducible refine nils_id ?_); first | refine NilS.vec (And.intro rfl ?_) | refine NilS.vec ?_) | with_reducible refine Spl.no hne ?_ | ((with_reducible refine callI_id ?_); first | with_reducible refine CallI.inl ti_ok i29 rfl ?_ | with_reducible refine CallI.inl ti_ok i30 rfl ?_ | with_reducible refine CallI.inl ti_ok i42 rfl ?_ | with_reducible refine CallI.inl ti_ok i43 rfl ?_)|(with_reducible first|refine gB ?_|refine gZ (fun x hx hu=>?_)|refine gY (fun x hx=>?_)|refine gE ?_|refine Both.mk ?_ ?_|refine gS (fun h=>?_) (fun h=>?_)|refine Spl.nt ?_|refine Spl.mk (fun h=>?_) (fun h=>?_))))
  conv => whnf
  refine loop_ruleW ti_ok (fun k : Nat => k ≤ l.length ∧ ∀ y ∈ l.take k, y.nm ≠ nm) (setA l nm v) (fun k => l.length - k) 0 ⟨Nat.zero_le _, fun y hy => (by cases hy)⟩ (Wk.enF (And.intro rfl (And.intro rfl (And.intro rfl (And.intro rfl trivial)))) (by (repeat (first | exact trivial | refine And.intro (obw_eq rfl (by with_unfolding_all exact rfl)) ?_ | refine And.intro (obw_fr (by with_unfolding_all exact rfl) (by (repeat (first | exact trivial | refine And.intro (by with_unfolding_all exact rfl) ?_)))) ?_))) rfl) ?_
  intro k ⟨k1, k2⟩
  rcases Nat.lt_or_ge k l.length with hkl | hkl
  · obtain ⟨x, hx⟩ := lt_get hkl
    have hxe : (l.map encVr)[k]? = some (encVr x) := by rw [List.getElem?_map, hx]; rfl
    have hxe0 : (l.map encVr)[0 + ((k : Nat) : Int).toNat]? = some (encVr x) := by rw [Nat.zero_add]; exact hxe
    by_cases hxn : x.nm = nm
    · have h2 : (setV l nm v).map encVr = (l.map encVr).take k ++ [(encVr x).take 1 ++ encVl v ++ (encVr x).drop (1 + 3)] ++ (l.map encVr).drop (k + 1) := by
        rw [setV_at l k nm v x hx hxn k2, List.map_append, List.map_append, List.map_take, List.map_drop]
        subst hxn
        rfl
      have hlen : ((setV l nm v).map encVr).length = (l.map encVr).length := by
        rw [h2]
        simp only [List.length_append, List.length_take, List.length_drop, List.length_cons, List.length_nil]
        omega
      (repeat' ((conv=>whnf);first|with_reducible refine gA ?_|refine at_some hxe ?_ | refine at_some hxe0 ?_ | ((with_reducible refine callE_id ?_); refine CallE.inl ?_) | ((with_reducible refine callI_id ?_); first | with_reducible refine CallI.inl ti_ok i43 rfl ?_) | ((with_reducible refine opX_id ?_); refine OpX.storeF (k := k) (c := encVr x) (es2 := (setV l nm v).map encVr) ti_ok rfl rfl rfl (by with_unfolding_all exact setVq) (by with_unfolding_all exact rfl) (by with_unfolding_all exact rfl) (by with_unfolding_all exact rfl) rfl rfl rfl rfl hxe h2 ?_)|(with_reducible first|refine gB ?_|refine gZ (fun x hx hu=>?_)|refine gY (fun x hx=>?_)|refine gE ?_|refine Both.mk ?_ ?_|refine gS (fun h=>?_) (fun h=>?_)|refine Spl.nt ?_|refine Spl.mk (fun h=>?_) (fun h=>?_))))
      refine ⟨⟨[(6, .d (.fs 4 ((setV l nm v).map encVr)))], [], 10⟩, Wk.frzL 4 48 4 ((setV l nm v).map encVr) false (by with_unfolding_all exact rfl) (And.intro (Fz.vx 0 (l.map encVr).length _ (by rw [hlen]; omega) (by rw [List.drop_zero, List.take_of_length_le (by rw [hlen]; exact Nat.le_refl _)])) trivial) trivial rfl, ?_⟩
      rfl
    · (repeat' ((conv=>whnf);first|with_reducible refine gA ?_|refine at_some hxe ?_ | refine at_some hxe0 ?_ | ((with_reducible refine callE_id ?_); refine CallE.inl ?_) | ((with_reducible refine callI_id ?_); first | with_reducible refine CallI.inl ti_ok i43 rfl ?_)|(with_reducible first|refine gB ?_|refine gZ (fun x hx hu=>?_)|refine gY (fun x hx=>?_)|refine gE ?_|refine Both.mk ?_ ?_|refine gS (fun h=>?_) (fun h=>?_)|refine Spl.nt ?_|refine Spl.mk (fun h=>?_) (fun h=>?_))))
      refine ⟨k + 1, ⟨hkl, fun y hy => ?_⟩, by dsimp only; omega, Wk.enF (And.intro rfl (And.intro rfl (And.intro rfl (And.intro (it_eq (by omega)) trivial)))) (by (repeat (first | exact trivial | refine And.intro (obw_eq rfl (by with_unfolding_all exact rfl)) ?_ | refine And.intro (obw_fr (by with_unfolding_all exact rfl) (by (repeat (first | exact trivial | refine And.intro (by with_unfolding_all exact rfl) ?_)))) ?_))) rfl⟩
      rw [take_snoc hx] at hy
      rcases List.mem_append.1 hy with hy | hy
      · exact k2 y hy
      · rw [List.mem_singleton.1 hy]; exact hxn
  · have hk : l.take k = l := List.take_of_length_le hkl
    rw [hk] at k2
    have hs : (setV l nm v).map encVr = l.map encVr ++ [encVr ⟨nm, v⟩] := by rw [setV_no l nm v k2, List.map_append]; rfl
    rw [hs]
    (repeat' ((conv=>whnf);first|with_reducible refine gA ?_|((with_reducible refine callE_id ?_); refine CallE.inl ?_)|(with_reducible first|refine gB ?_|refine gZ (fun x hx hu=>?_)|refine gY (fun x hx=>?_)|refine gE ?_|refine Both.mk ?_ ?_|refine gS (fun h=>?_) (fun h=>?_)|refine Spl.nt ?_|refine Spl.mk (fun h=>?_) (fun h=>?_))))
    refine ⟨⟨[(6, .d (.fs 4 (l.map encVr ++ [encVr ⟨nm, v⟩])))], [], 9⟩, Wk.frzL 4 48 4 ((l.map encVr).take (l.map encVr).length ++ [encVr ⟨nm, v⟩]) false (by with_unfolding_all exact rfl) (And.intro (Fz.vx 0 ((l.map encVr).length + 1) _ ?_ ?_) trivial) trivial rfl, ?_⟩
    · have hq : ((l.map encVr).take (l.map encVr).length ++ [encVr ⟨nm, v⟩]).length = (l.map encVr).length + 1 := by rw [List.take_of_length_le (Nat.le_refl _), List.length_append]; rfl
      rw [hq]; omega
    · have hq : ((l.map encVr).take (l.map encVr).length ++ [encVr ⟨nm, v⟩]).length = (l.map encVr).length + 1 := by rw [List.take_of_length_le (Nat.le_refl _), List.length_append]; rfl
      rw [List.drop_zero, List.take_of_length_le (by rw [hq]; exact Nat.le_refl _), List.take_of_length_le (Nat.le_refl _)]
    · rfl
theorem set_ok (l : List Vr) (h20 : l.length ≤ 1000) (nm : List UInt8) (v : Vl) : FnC Tryz.prog 15 [.d (.fs 4 (l.map encVr)), .d (.st nm), .dg 3 (encVl v)] (.d (.fs 4 ((setV l nm v).map encVr))) := by
  by_cases hl : l = []
  · subst hl
    exact set_nil nm v
  · exact set_more l hl h20 nm v
end Go.Proofs.YtajeadkdacgldaaGreatDoor

/- The document's variable is set; variables as the program's. Conditions: none. -/
namespace Go.Proofs.YtajeadkdacgldaaGreatDoor
open Go.Sy
set_option maxRecDepth 100000
set_option linter.all false
theorem setVq2 {k : Nat} : some (AV.vq 4 2 (Nat.add 0 ((k : Int)).toNat) 1) = some (AV.vq 4 2 k 1) := by rw [Int.toNat_natCast]; show some (AV.vq 4 2 (0 + k) 1) = _; rw [Nat.zero_add]
def rsA (l : List Vr) (nm : List UInt8) (v : Vl) (k : Nat) : S := ⟨[(1, .d (.st nm)), (5, .ptr 0 0), (7, .vx 4 2 0 (l.map encVr).length), (8, .d (.it .i64 (k : Nat)))], [(2, .vec 50 4 (l.map encVr) false), (0, .cells 3 ((encVl v).map AV.d))], 3⟩
set_option maxHeartbeats 4000000 in
theorem rset_ok (l : List Vr) (h20 : l.length ≤ 1000) (nm : List UInt8) (v : Vl) : FnC Tryz.prog 17 [.d (.fs 4 (l.map encVr)), .d (.st nm), .dg 3 (encVl v)] (.d (.fs 4 ((setV l nm v).map encVr))) := by
  have hml : (l.map encVr).length = l.length := List.length_map ..
  refine FnC.introW ti_ok Tryz.func17 rfl Tryz.ntmps17 Tryz.call17 rfl (Nat.le_of_ble_eq_true rfl) rfl ?_
  (repeat' ((conv=>whnf);first|with_reducible refine gA ?_|((with_reducible refine nils_id ?_); first | refine NilS.vec (And.intro rfl ?_) | refine NilS.vec ?_)|(with_reducible first|refine gB ?_|refine gZ (fun x hx hu=>?_)|refine gY (fun x hx=>?_)|refine gE ?_|refine Both.mk ?_ ?_|refine gS (fun h=>?_) (fun h=>?_)|refine Spl.nt ?_|refine Spl.mk (fun h=>?_) (fun h=>?_))))
  refine loop_ruleW ti_ok (fun k : Nat => k ≤ l.length ∧ ∀ y ∈ l.take k, y.nm ≠ nm) (rsA l nm v) (fun k => l.length - k) 0 ⟨Nat.zero_le _, fun y hy => (by cases hy)⟩ (Wk.en ⟨And.intro rfl (And.intro rfl (And.intro rfl (And.intro rfl trivial))), And.intro rfl (And.intro rfl trivial), rfl⟩) ?_
  intro k ⟨k1, k2⟩
  rcases Nat.lt_or_ge k l.length with hkl | hkl
  · obtain ⟨x, hx⟩ := lt_get hkl
    have hxe : (l.map encVr)[k]? = some (encVr x) := by rw [List.getElem?_map, hx]; rfl
    have hxe0 : (l.map encVr)[0 + ((k : Nat) : Int).toNat]? = some (encVr x) := by rw [Nat.zero_add]; exact hxe
    by_cases hxn : x.nm = nm
    · have h2 : (setV l nm v).map encVr = (l.map encVr).take k ++ [(encVr x).take 1 ++ encVl v ++ (encVr x).drop (1 + 3)] ++ (l.map encVr).drop (k + 1) := by
        rw [setV_at l k nm v x hx hxn k2, List.map_append, List.map_append, List.map_take, List.map_drop]
        subst hxn
        rfl
      have hlen : ((setV l nm v).map encVr).length = (l.map encVr).length := by
        rw [h2]
        simp only [List.length_append, List.length_take, List.length_drop, List.length_cons, List.length_nil]
        omega
      (repeat' ((conv=>whnf);first|with_reducible refine gA ?_|refine at_some hxe ?_ | refine at_some hxe0 ?_ | ((with_reducible refine opX_id ?_); refine OpX.storeF (k := k) (c := encVr x) (es2 := (setV l nm v).map encVr) ti_ok rfl rfl rfl (by with_unfolding_all exact setVq2) (by with_unfolding_all exact rfl) (by with_unfolding_all exact rfl) (by with_unfolding_all exact rfl) rfl rfl rfl rfl hxe h2 ?_)|(with_reducible first|refine gB ?_|refine gZ (fun x hx hu=>?_)|refine gY (fun x hx=>?_)|refine gE ?_|refine Both.mk ?_ ?_|refine gS (fun h=>?_) (fun h=>?_)|refine Spl.nt ?_|refine Spl.mk (fun h=>?_) (fun h=>?_))))
      refine ⟨⟨[(6, .d (.fs 4 ((setV l nm v).map encVr)))], [], 3⟩, Wk.frzL 2 50 4 ((setV l nm v).map encVr) false (by with_unfolding_all exact rfl) (And.intro (Fz.vx 0 (l.map encVr).length _ (by rw [hlen]; omega) (by rw [List.drop_zero, List.take_of_length_le (by rw [hlen]; exact Nat.le_refl _)])) trivial) trivial rfl, ?_⟩
      rfl
    · (repeat' ((conv=>whnf);first|with_reducible refine gA ?_|refine at_some hxe ?_ | refine at_some hxe0 ?_|(with_reducible first|refine gB ?_|refine gZ (fun x hx hu=>?_)|refine gY (fun x hx=>?_)|refine gE ?_|refine Both.mk ?_ ?_|refine gS (fun h=>?_) (fun h=>?_)|refine Spl.nt ?_|refine Spl.mk (fun h=>?_) (fun h=>?_))))
      refine ⟨k + 1, ⟨hkl, fun y hy => ?_⟩, by dsimp only; omega, Wk.en ⟨And.intro rfl (And.intro rfl (And.intro rfl (And.intro (it_eq (by omega)) trivial))), And.intro rfl (And.intro rfl trivial), rfl⟩⟩
      rw [take_snoc hx] at hy
      rcases List.mem_append.1 hy with hy | hy
      · exact k2 y hy
      · rw [List.mem_singleton.1 hy]; exact hxn
  · have hk : l.take k = l := List.take_of_length_le hkl
    rw [hk] at k2
    have hs : (setV l nm v).map encVr = l.map encVr ++ [encVr ⟨nm, v⟩] := by rw [setV_no l nm v k2, List.map_append]; rfl
    rw [hs]
    (repeat' ((conv=>whnf);first|with_reducible refine gA ?_|(with_reducible first|refine gB ?_|refine gZ (fun x hx hu=>?_)|refine gY (fun x hx=>?_)|refine gE ?_|refine Both.mk ?_ ?_|refine gS (fun h=>?_) (fun h=>?_)|refine Spl.nt ?_|refine Spl.mk (fun h=>?_) (fun h=>?_))))
    refine ⟨⟨[(6, .d (.fs 4 (l.map encVr ++ [encVr ⟨nm, v⟩])))], [], 4⟩, Wk.frzL 2 50 4 ((l.map encVr).take (l.map encVr).length ++ [encVr ⟨nm, v⟩]) false (by with_unfolding_all exact rfl) (And.intro (Fz.vx 0 ((l.map encVr).length + 1) _ ?_ ?_) trivial) trivial rfl, ?_⟩
    · have hq : ((l.map encVr).take (l.map encVr).length ++ [encVr ⟨nm, v⟩]).length = (l.map encVr).length + 1 := by rw [List.take_of_length_le (Nat.le_refl _), List.length_append]; rfl
      rw [hq]; omega
    · have hq : ((l.map encVr).take (l.map encVr).length ++ [encVr ⟨nm, v⟩]).length = (l.map encVr).length + 1 := by rw [List.take_of_length_le (Nat.le_refl _), List.length_append]; rfl
      rw [List.drop_zero, List.take_of_length_le (by rw [hq]; exact Nat.le_refl _), List.take_of_length_le (Nat.le_refl _)]
    · rfl
def tkL (l : List Vr) (k : Nat) : List Vr := l.take k
theorem tkL_len {l : List Vr} {k : Nat} (h : k ≤ l.length) : (tkL l k).length = k := by unfold tkL; rw [List.length_take]; omega
def vsA (l : List Vr) (k : Nat) : S := ⟨[(0, .d (.fs 4 (l.map encVr))), (3, .ts 4 ((tkL l k).map encVr) 1), (4, .d (.it .i64 (k : Nat)))], [(1, .tail 48 true)], 2⟩
theorem vars_ok (l : List Vr) (h20 : l.length ≤ 1000) : FnC Tryz.prog 16 [.d (.fs 4 (l.map encVr))] (.d (.fs 4 (l.map encVr))) := by
  have hml : (l.map encVr).length = l.length := List.length_map ..
  refine FnC.intro ti_ok Tryz.func16 rfl Tryz.ntmps16 Tryz.call16 rfl (Nat.le_of_ble_eq_true rfl) rfl ?_
  (repeat' ((conv=>whnf);first|with_reducible refine gA ?_|(with_reducible first|refine gB ?_|refine gZ (fun x hx hu=>?_)|refine gY (fun x hx=>?_)|refine gE ?_|refine Both.mk ?_ ?_|refine gS (fun h=>?_) (fun h=>?_)|refine Spl.nt ?_|refine Spl.mk (fun h=>?_) (fun h=>?_))))
  refine loop_rule ti_ok (fun k : Nat => k ≤ l.length) (vsA l) (fun k => l.length - k) 0 (Nat.zero_le _) ⟨And.intro rfl (And.intro rfl (And.intro rfl trivial)), And.intro rfl trivial, rfl⟩ ?_
  intro k hk
  have hkt := tkL_len hk
  rcases Nat.lt_or_ge k l.length with hkl | hkl
  · obtain ⟨x, hx⟩ := lt_get hkl
    have hst : tkL l (k + 1) = tkL l k ++ [x] := take_snoc hx
    (repeat' ((conv=>whnf);first|with_reducible refine gA ?_|with_reducible refine at_known hx ?_|(with_reducible first|refine gB ?_|refine gZ (fun x hx hu=>?_)|refine gY (fun x hx=>?_)|refine gE ?_|refine Both.mk ?_ ?_|refine gS (fun h=>?_) (fun h=>?_)|refine Spl.nt ?_|refine Spl.mk (fun h=>?_) (fun h=>?_))))
    all_goals refine again (k + 1) hkl (by dsimp only; omega) (And.intro rfl (And.intro (ts_eq ?_) (And.intro (it_eq (by omega)) trivial))) (And.intro rfl trivial) rfl
    all_goals (rw [hst, List.map_append]; rfl)
  · have hte : tkL l k = l := List.take_of_length_le hkl
    (repeat' ((conv=>whnf);first|with_reducible refine gA ?_|(with_reducible first|refine gB ?_|refine gZ (fun x hx hu=>?_)|refine gY (fun x hx=>?_)|refine gE ?_|refine Both.mk ?_ ?_|refine gS (fun h=>?_) (fun h=>?_)|refine Spl.nt ?_|refine Spl.mk (fun h=>?_) (fun h=>?_))))
    exact congrArg (fun q => AV.d (.fs 4 (q.map encVr))) hte
end Go.Proofs.YtajeadkdacgldaaGreatDoor

/- Few variables; what must come. Conditions: none. -/
namespace Go.Proofs.YtajeadkdacgldaaGreatDoor
open Go.Sy
set_option maxRecDepth 100000
set_option linter.all false
def ex0 : List D := [.it .i64 0, .it .i64 0, .st [], .fs 4 []]
theorem sblock_c (n : Int) : FnC Tryz.prog 31 [.d (.fs 7 []), .d (.it .i64 n)] (.d (.it .i64 0)) := by
  refine FnC.intro ti_ok Tryz.func31 rfl Tryz.ntmps31 Tryz.call31 rfl (Nat.le_of_ble_eq_true rfl) rfl ?_
  (repeat' ((conv=>whnf);first|with_reducible refine gA ?_|with_reducible refine LoopS.unroll ti_ok 2 ?_|(with_reducible first|refine gB ?_|refine gZ (fun x hx hu=>?_)|refine gY (fun x hx=>?_)|refine gE ?_|refine Both.mk ?_ ?_|refine gS (fun h=>?_) (fun h=>?_)|refine Spl.nt ?_|refine Spl.mk (fun h=>?_) (fun h=>?_))))
  all_goals rfl
theorem sexpr_c : FnC Tryz.prog 32 [.dg 4 ex0, .d (.it .i64 299)] (.d (.it .i64 1)) := by
  refine FnC.intro ti_ok Tryz.func32 rfl Tryz.ntmps32 Tryz.call32 rfl (Nat.le_of_ble_eq_true rfl) rfl ?_
  (repeat' ((conv=>whnf);first|with_reducible refine gA ?_|with_reducible refine LoopS.unroll ti_ok 2 ?_|(with_reducible first|refine gB ?_|refine gZ (fun x hx hu=>?_)|refine gY (fun x hx=>?_)|refine gE ?_|refine Both.mk ?_ ?_|refine gS (fun h=>?_) (fun h=>?_)|refine Spl.nt ?_|refine Spl.mk (fun h=>?_) (fun h=>?_))))
  all_goals rfl
theorem size_c : FnC Tryz.prog 18 [.dg 4 [.fs 2 [], .fs 7 [], .fs 7 [], .fs 5 [.st [] :: ex0]], .d (.it .i64 300)] (.d (.it .i64 2)) := by
  have hb := fun n => sblock_c n
  have he := sexpr_c
  refine FnC.intro ti_ok Tryz.func18 rfl Tryz.ntmps18 Tryz.call18 rfl (Nat.le_of_ble_eq_true rfl) rfl ?_
  (repeat' ((conv=>whnf);first|with_reducible refine gA ?_|((with_reducible refine callE_id ?_); first | refine CallE.con ⟨_, hb _, ?_⟩ | refine CallE.con ⟨_, he, ?_⟩) | with_reducible refine LoopS.unroll ti_ok 2 ?_ | refine LetI.eq 300 (by decide) ?_|(with_reducible first|refine gB ?_|refine gZ (fun x hx hu=>?_)|refine gY (fun x hx=>?_)|refine gE ?_|refine Both.mk ?_ ?_|refine gS (fun h=>?_) (fun h=>?_)|refine Spl.nt ?_|refine Spl.mk (fun h=>?_) (fun h=>?_))))
  all_goals rfl
def fewP (l : List Vr) : Prop := (∀ x ∈ l.take 20, x.nm.length ≤ 300 ∧ x.v.s.length ≤ 300) ∧ l.length ≤ 20
instance (l : List Vr) : Decidable (fewP l) := by unfold fewP; infer_instance
theorem few_ok (l : List Vr) : FnC Tryz.prog 4 [.dg 4 ex0, .d (.fs 4 (l.map encVr))] (.d (.bl (decide (fewP l)))) := by
  have hml : (l.map encVr).length = l.length := List.length_map ..
  have hs := size_c
  refine FnC.intro ti_ok Tryz.func4 rfl Tryz.ntmps4 Tryz.call4 rfl (Nat.le_of_ble_eq_true rfl) rfl ?_
  (repeat' ((conv=>whnf);first|with_reducible refine gA ?_|(with_reducible first|refine gB ?_|refine gZ (fun x hx hu=>?_)|refine gY (fun x hx=>?_)|refine gE ?_|refine Both.mk ?_ ?_|refine gS (fun h=>?_) (fun h=>?_)|refine Spl.nt ?_|refine Spl.mk (fun h=>?_) (fun h=>?_))))
  refine loop_rule ti_ok (fun k : Nat => k ≤ l.length ∧ k ≤ 20 ∧ ∀ x ∈ l.take k, x.nm.length ≤ 300 ∧ x.v.s.length ≤ 300) (fun k => ⟨[(1, .d (.fs 4 (l.map encVr))), (2, .ptr 0 0), (5, .d (.it .i64 k))], [(0, .cells 4 (ex0.map AV.d))], 1⟩) (fun k => 20 - k) 0 ⟨Nat.zero_le _, Nat.zero_le _, fun y hy => (by cases hy)⟩ ⟨And.intro rfl (And.intro rfl (And.intro rfl trivial)), And.intro rfl trivial, rfl⟩ ?_
  intro k ⟨k1, k2, k3⟩
  by_cases hkl : k < l.length ∧ k < 20
  · obtain ⟨x, hx⟩ := lt_get hkl.1
    have hkl2 := hkl.2
    have hkl1 := hkl.1
    have hmem : x ∈ l.take 20 := by
      rw [List.mem_take_iff_getElem]
      obtain ⟨q1, q2⟩ := List.getElem?_eq_some_iff.1 hx
      exact ⟨k, by omega, q2⟩
    obtain ⟨xn, xk, xi, xs⟩ := x
    (repeat' ((conv=>whnf);first|with_reducible refine gA ?_|with_reducible refine at_known hx ?_|(with_reducible first|refine gB ?_|refine gZ (fun x hx hu=>?_)|refine gY (fun x hx=>?_)|refine gE ?_|refine Both.mk ?_ ?_|refine gS (fun h=>?_) (fun h=>?_)|refine Spl.nt ?_|refine Spl.mk (fun h=>?_) (fun h=>?_))))
    all_goals first
      | (refine again (k + 1) ⟨hkl1, hkl2, fun y hy => ?_⟩ (by dsimp only; omega) (And.intro rfl (And.intro rfl (And.intro (it_eq (by omega)) trivial))) (And.intro rfl trivial) rfl
         rw [take_snoc hx] at hy
         rcases List.mem_append.1 hy with hy | hy
         · exact k3 y hy
         · rw [List.mem_singleton.1 hy]
           dsimp only at *
           omega)
      | (refine bl_eq ?_
         rw [eq_comm, decide_eq_false_iff_not]
         intro hf
         have := hf.1 _ hmem
         dsimp only at *
         omega)
  · by_cases h20 : l.length ≤ 20
    · have hke : k = l.length := by omega
      have hkk : l.take 20 = l.take k := by rw [hke, List.take_of_length_le h20, List.take_of_length_le (Nat.le_refl _)]
      have hf : fewP l := ⟨by rw [hkk]; exact k3, h20⟩
      rw [decide_eq_true hf]
      (repeat' ((conv=>whnf);first|with_reducible refine gA ?_|((with_reducible refine callE_id ?_); refine CallE.con ⟨_, hs, ?_⟩)|(with_reducible first|refine gB ?_|refine gZ (fun x hx hu=>?_)|refine gY (fun x hx=>?_)|refine gE ?_|refine Both.mk ?_ ?_|refine gS (fun h=>?_) (fun h=>?_)|refine Spl.nt ?_|refine Spl.mk (fun h=>?_) (fun h=>?_))))
      all_goals first | rfl | (exfalso; dsimp only at *; omega)
    · have hf : ¬ fewP l := fun h => h20 h.2
      rw [decide_eq_false hf]
      (repeat' ((conv=>whnf);first|with_reducible refine gA ?_|((with_reducible refine callE_id ?_); refine CallE.con ⟨_, hs, ?_⟩)|(with_reducible first|refine gB ?_|refine gZ (fun x hx hu=>?_)|refine gY (fun x hx=>?_)|refine gE ?_|refine Both.mk ?_ ?_|refine gS (fun h=>?_) (fun h=>?_)|refine Spl.nt ?_|refine Spl.mk (fun h=>?_) (fun h=>?_))))
      all_goals first | rfl | (exfalso; dsimp only at *; omega)
end Go.Proofs.YtajeadkdacgldaaGreatDoor

/- What must come; the law. Conditions: none. -/
namespace Go.Proofs.YtajeadkdacgldaaGreatDoor
open Go.Sy
set_option maxRecDepth 100000
set_option linter.all false
theorem num22_ok (n : Int) : FnC Tryz.prog 8 [.d (.it .i64 n)] (.d (.it .i64 n)) := by
  refine FnC.intro ti_ok Tryz.func8 rfl Tryz.ntmps8 Tryz.call8 rfl (Nat.le_of_ble_eq_true rfl) rfl ?_
  (repeat' ((conv=>whnf);first|with_reducible refine gA ?_|(with_reducible first|refine gB ?_|refine gZ (fun x hx hu=>?_)|refine gY (fun x hx=>?_)|refine gE ?_|refine Both.mk ?_ ?_|refine gS (fun h=>?_) (fun h=>?_)|refine Spl.nt ?_|refine Spl.mk (fun h=>?_) (fun h=>?_))))
  all_goals rfl
def dkE : Dk := ⟨0, emptyM, [], [], 0⟩
theorem dkE_OK : DkOK (some dkE) := ⟨em_ok, (fun w hw => by cases hw), by decide, by decide⟩
theorem dkE_m : mntP (imgD (some dkE)) := by decide +kernel
theorem fresh_c : FnC Tryz.prog 19 [.d (encM emptyM)] (.d (.fp 1 [encD (some dkE)])) := by
  have h1 : FnC Tryz.prog 33 [.d (encM emptyM)] (.tup [.d (encD (some dkE)), .d (.it .i64 0)]) := from_ok emptyM (by decide)
  have h2 := mount_ok (some dkE) dkE_OK
  unfold mountV at h2
  rw [if_pos dkE_m] at h2
  generalize encD (some dkE) = E at *
  generalize encM emptyM = M at *
  refine FnC.intro ti_ok Tryz.func19 rfl Tryz.ntmps19 Tryz.call19 rfl (Nat.le_of_ble_eq_true rfl) rfl ?_
  (repeat' ((conv=>whnf);first|with_reducible refine gA ?_|((with_reducible refine callE_id ?_); first | refine CallE.con ⟨_, h1, ?_⟩ | refine CallE.con ⟨_, h2, ?_⟩)|(with_reducible first|refine gB ?_|refine gZ (fun x hx hu=>?_)|refine gY (fun x hx=>?_)|refine gE ?_|refine Both.mk ?_ ?_|refine gS (fun h=>?_) (fun h=>?_)|refine Spl.nt ?_|refine Spl.mk (fun h=>?_) (fun h=>?_))))
  all_goals rfl
theorem nil_d {g : Gh} {a b : Nat} {v : Value} (h : AVR g (.d (.fs a [])) v) : AVR g (.d (.fs b [])) v := by
  cases h with | d _ _ hd => ?_
  cases hd with
  | fs0 => exact .d _ _ (.fs0 _ _ _)
  | fs _ _ _ _ _ _ _ hl =>
    obtain rfl : 0 = _ := hl
    exact .d _ _ (.fs0 _ _ _)
theorem FnC.arg1 {P : Program} {f : Nat} {x y : AV} {l : List AV} {r : AV} (h : FnC P f (x :: l) r) (hc : ∀ g v, AVR g y v → AVR g x v) : FnC P f (y :: l) r := ⟨h.isP, fun g w vs h1 h2 h3 h4 => h.run g w vs h1 h2 h3 fun j hj => by
  have := h4 j hj
  cases j with
  | zero => exact hc _ _ this
  | succ j => exact this⟩
theorem set_nil0 (nm : List UInt8) (v : Vl) : FnC Tryz.prog 15 [.d (.fs 0 []), .d (.st nm), .dg 3 (encVl v)] (.d (.fs 4 [encVr ⟨nm, v⟩])) :=
  FnC.arg1 (set_nil nm v) fun _ _ h => nil_d h
theorem knows22_ok : FnC Tryz.prog 5 [] (.d (.bl true)) := by
  have h1 := empty_ok
  have h2 := fresh_c
  have h3 := evalE (.fp 1 [encD (some dkE)])
  have h4 := vInt_ok 2
  have h5 := vText_ok [120]
  have h6 := vText_ok [121]
  have h7 := op_ok 9 (textV [120]) (textV [121]) (by decide) (by decide)
  rw [show opV 9 (textV [120]) (textV [121]) = (textV [120, 121], 0) by decide +kernel] at h7
  have h8 := vBool_ok true
  have h9 := set_nil0 [98] (boolV true)
  have n0 := num22_ok 0
  unfold tupV at h3 h7
  generalize encD (some dkE) = E at *
  generalize encM emptyM = M at *
  refine FnC.intro ti_ok Tryz.func5 rfl Tryz.ntmps5 Tryz.call5 rfl (Nat.le_of_ble_eq_true rfl) rfl ?_
  (repeat' ((conv=>whnf);first|with_reducible refine gA ?_|((with_reducible refine callE_id ?_); first | refine CallE.con ⟨_, h1, ?_⟩ | refine CallE.con ⟨_, h2, ?_⟩ | refine CallE.con ⟨_, h3, ?_⟩ | refine CallE.con ⟨_, h4, ?_⟩ | refine CallE.con ⟨_, h5, ?_⟩ | refine CallE.con ⟨_, h6, ?_⟩ | refine CallE.con ⟨_, h7, ?_⟩ | refine CallE.con ⟨_, h8, ?_⟩ | refine CallE.con ⟨_, h9, ?_⟩ | refine CallE.con ⟨_, n0, ?_⟩)|(with_reducible first|refine gB ?_|refine gZ (fun x hx hu=>?_)|refine gY (fun x hx=>?_)|refine gE ?_|refine Both.mk ?_ ?_|refine gS (fun h=>?_) (fun h=>?_)|refine Spl.nt ?_|refine Spl.mk (fun h=>?_) (fun h=>?_))))
  all_goals rfl
end Go.Proofs.YtajeadkdacgldaaGreatDoor

/- Operations and variables as the document says: the law's walk. Conditions: none. -/
namespace Go.Proofs.YtajeadkdacgldaaGreatDoor
open Go.Sy
set_option maxRecDepth 100000
set_option linter.all false
theorem encVl_eq (v : Vl) : eqDs (encVl v) (encVl v) = true := by
  show ((v.k == v.k) && ((v.n == v.n) && ((v.s == v.s) && true))) = true
  rw [beq_self_eq_true, beq_self_eq_true, beq_self_eq_true]; rfl
theorem setV_len : ∀ (l : List Vr) (nm : List UInt8) (v : Vl), (setV l nm v).length ≤ l.length + 1
  | [], _, _ => Nat.le_refl _
  | x :: t, nm, v => by
    unfold setV
    split
    · exact Nat.le_succ _
    · exact Nat.succ_le_succ (setV_len t nm v)
theorem encVl_no {v : Vl} (h : eqDs (encVl v) (encVl v) = false) : False := by rw [encVl_eq] at h; cases h
theorem law22_ok (op : Int) (a b : Vl) (l : List Vr) (nm : List UInt8) : FnC Tryz.prog 3 [.d (.it .i64 op), .dg 3 (encVl a), .dg 3 (encVl b), .d (.fs 4 (l.map encVr)), .d (.st nm)] (.d (.bl true)) := by
  have hf := few_ok l
  have hk := knows22_ok
  by_cases hq : a.s.length ≤ 500 ∧ b.s.length ≤ 500 ∧ nm.length ≤ 300 ∧ fewP l
  · obtain ⟨h1, h2, h3, h4⟩ := hq
    have h20 : l.length ≤ 1000 := Nat.le_trans h4.2 (by decide)
    rw [decide_eq_true h4] at hf
    have c1 := op_ok op a b (by omega) (by omega)
    have c2 := refOp_ok op a b (by omega) (by omega)
    have c3 := vInt_ok a.n
    have c4 := rInt_ok a.n
    have c5 := vText_ok a.s
    have c6 := rText_ok a.s
    have c7 := vBool_ok (decide (0 < a.n))
    have c8 := rBool_ok (decide (0 < a.n))
    have c9 := vars_ok l h20
    have c10 := set_ok l h20 nm a
    have c11 := rset_ok l h20 nm a
    have c12 := num22_ok (opV op a b).2
    have hml : (l.map encVr).length = l.length := List.length_map ..
    have hms : ((setV l nm a).map encVr).length = (setV l nm a).length := List.length_map ..
    have hmb : (setV l nm a).length ≤ 1001 := Nat.le_trans (setV_len l nm a) (by omega)
    generalize setV l nm a = m at *

    generalize opV op a b = r at *
    obtain ⟨ak, an, at0⟩ := a
    obtain ⟨bk, bn, bs⟩ := b
    obtain ⟨⟨rk, rn, rs⟩, rw⟩ := r
    unfold tupV at c1 c2
    dsimp only at *
    refine FnC.intro ti_ok Tryz.func3 rfl Tryz.ntmps3 Tryz.call3 rfl (Nat.le_of_ble_eq_true rfl) rfl ?_
    (repeat' ((conv=>whnf);first|with_reducible refine gA ?_|((with_reducible refine callE_id ?_); first | refine CallE.con ⟨_, hf, ?_⟩ | refine CallE.con ⟨_, hk, ?_⟩ | refine CallE.con ⟨_, c1, ?_⟩ | refine CallE.con ⟨_, c2, ?_⟩ | refine CallE.con ⟨_, c12, ?_⟩ | refine CallE.con ⟨_, c3, ?_⟩ | refine CallE.con ⟨_, c4, ?_⟩ | refine CallE.con ⟨_, c5, ?_⟩ | refine CallE.con ⟨_, c6, ?_⟩ | refine CallE.con ⟨_, vBool_ok _, ?_⟩ | refine CallE.con ⟨_, rBool_ok _, ?_⟩ | refine CallE.con ⟨_, c9, ?_⟩ | refine CallE.con ⟨_, c10, ?_⟩ | refine CallE.con ⟨_, c11, ?_⟩) | refine CallP.mk ⟨_, hf, ?_⟩ | refine CallP.mk ⟨_, hk, ?_⟩ | refine CallP.mk ⟨_, c1, ?_⟩ | refine CallP.mk ⟨_, c2, ?_⟩ | refine CallP.mk ⟨_, c12, ?_⟩ | refine CallP.mk ⟨_, c3, ?_⟩ | refine CallP.mk ⟨_, c4, ?_⟩ | refine CallP.mk ⟨_, c5, ?_⟩ | refine CallP.mk ⟨_, c6, ?_⟩ | refine CallP.mk ⟨_, vBool_ok _, ?_⟩ | refine CallP.mk ⟨_, rBool_ok _, ?_⟩ | refine CallP.mk ⟨_, c9, ?_⟩ | refine CallP.mk ⟨_, c10, ?_⟩ | refine CallP.mk ⟨_, c11, ?_⟩|(with_reducible first|refine gB ?_|refine gZ (fun x hx hu=>?_)|refine gY (fun x hx=>?_)|refine gE ?_|refine Both.mk ?_ ?_|refine gS (fun h=>?_) (fun h=>?_)|refine Spl.nt ?_|refine Spl.mk (fun h=>?_) (fun h=>?_))))
    all_goals first
      | rfl
      | (exfalso; first | exact encVl_no h | exact h rfl)
      | skip
    refine loop_rule ti_ok (fun k : Nat => k ≤ m.length) (fun k => ⟨[(15, .d (.fs 4 (m.map encVr))), (16, .d (.fs 4 (m.map encVr))), (17, .d (.it .i64 k))], [], 0⟩) (fun k => m.length - k) 0 (Nat.zero_le _) ⟨And.intro rfl (And.intro rfl (And.intro rfl trivial)), trivial, rfl⟩ ?_
    intro k hk
    rcases Nat.lt_or_ge k m.length with hkm | hkm
    · obtain ⟨x, hx⟩ := lt_get hkm
      obtain ⟨xn, xk, xi, xs⟩ := x
      (repeat' ((conv=>whnf);first|with_reducible refine gA ?_|with_reducible refine at_known hx ?_|(with_reducible first|refine gB ?_|refine gZ (fun x hx hu=>?_)|refine gY (fun x hx=>?_)|refine gE ?_|refine Both.mk ?_ ?_|refine gS (fun h=>?_) (fun h=>?_)|refine Spl.nt ?_|refine Spl.mk (fun h=>?_) (fun h=>?_))))
      · exact absurd rfl h
      · exact again (k + 1) hkm (by dsimp only; omega) (And.intro rfl (And.intro rfl (And.intro (it_eq (by omega)) trivial))) trivial rfl
      · exact (encVl_no (v := ⟨xk, xi, xs⟩) h).elim
    · (repeat' ((conv=>whnf);first|with_reducible refine gA ?_|(with_reducible first|refine gB ?_|refine gZ (fun x hx hu=>?_)|refine gY (fun x hx=>?_)|refine gE ?_|refine Both.mk ?_ ?_|refine gS (fun h=>?_) (fun h=>?_)|refine Spl.nt ?_|refine Spl.mk (fun h=>?_) (fun h=>?_))))
      all_goals exact bl_eq (beq_self_eq_true _)
  · refine FnC.intro ti_ok Tryz.func3 rfl Tryz.ntmps3 Tryz.call3 rfl (Nat.le_of_ble_eq_true rfl) rfl ?_
    obtain ⟨ak, an, at0⟩ := a
    obtain ⟨bk, bn, bs⟩ := b
    (repeat' ((conv=>whnf);first|with_reducible refine gA ?_|((with_reducible refine callE_id ?_); first | refine CallE.con ⟨_, hf, ?_⟩ | refine CallE.con ⟨_, hk, ?_⟩)|(with_reducible first|refine gB ?_|refine gZ (fun x hx hu=>?_)|refine gY (fun x hx=>?_)|refine gE ?_|refine Both.mk ?_ ?_|refine gS (fun h=>?_) (fun h=>?_)|refine Spl.nt ?_|refine Spl.mk (fun h=>?_) (fun h=>?_))))
    all_goals first
      | rfl
      | exact (hq ⟨by omega, by omega, by omega, h⟩).elim
end Go.Proofs.YtajeadkdacgldaaGreatDoor

/- The card of ValueOps. Conditions: none. -/
namespace Go.Proofs.YtajeadkdacgldaaGreatDoor
open Go.Sy Go.ChangeShapes Go.WideShapes Go.ChangeAt Go.RowKit
set_option maxRecDepth 100000
set_option linter.all false
def plainT : List Nat := [2, 3, 9, 23, 24, 50]
theorem closed : closedB ti plainT = true := by decide +kernel
theorem shp_i3 {n : Nat} {ds : List D} (h : Shp ti n 3 ds) : ∃ z : Int, ds = [.it .i64 z] := by
  match n, h with
  | n + 1, h =>
    obtain ⟨z, rfl, _⟩ := h
    exact ⟨z, rfl⟩
theorem shp_i2 {n : Nat} {ds : List D} (h : Shp ti n 2 ds) : ∃ z : Int, ds = [.it .i64 z] := by
  match n, h with
  | n + 1, h =>
    obtain ⟨z, rfl, _⟩ := h
    exact ⟨z, rfl⟩
theorem shp_st {n : Nat} {ds : List D} (h : Shp ti n 9 ds) : ∃ s : List UInt8, ds = [.st s] := by
  match n, h with
  | n + 1, h =>
    obtain ⟨s, hl, _⟩ := h
    exact ⟨s, by simpa using hl⟩
theorem shp_vl {n : Nat} {ds : List D} (h : Shp ti n 23 ds) : ∃ v : Vl, ds = encVl v := by
  match n, h with
  | n + 1, h =>
    obtain ⟨a, b, rfl, ha, c, d, rfl, hc, e, f, rfl, he, rfl⟩ := h
    obtain ⟨z, rfl⟩ := shp_i3 ha
    obtain ⟨m, rfl⟩ := shp_i2 hc
    obtain ⟨s, rfl⟩ := shp_st he
    exact ⟨⟨z, m, s⟩, rfl⟩
theorem shp_vr {n : Nat} {ds : List D} (h : Shp ti n 50 ds) : ∃ v : Vr, ds = encVr v := by
  match n, h with
  | n + 1, h =>
    obtain ⟨a, b, rfl, ha, c, d, rfl, hc, rfl⟩ := h
    obtain ⟨z, rfl⟩ := shp_st ha
    obtain ⟨v, rfl⟩ := shp_vl hc
    exact ⟨⟨z, v⟩, by simp [encVr]⟩
theorem shp_vrs {n : Nat} : ∀ {es : List (List D)}, (∀ x ∈ es, Shp ti n 50 x) → ∃ l : List Vr, es = l.map encVr
  | [], _ => ⟨[], rfl⟩
  | x :: es, h => by
    obtain ⟨c, rfl⟩ := shp_vr (h x List.mem_cons_self)
    obtain ⟨l, rfl⟩ := shp_vrs (fun y hy => h y (List.mem_cons_of_mem _ hy))
    exact ⟨c :: l, rfl⟩
theorem shp_vs {n : Nat} {x : D} (h : Shp ti n 24 [x]) : ∃ l : List Vr, x = .fs 4 (l.map encVr) := by
  match n, h with
  | n + 1, h =>
    obtain ⟨es, hl, _, he⟩ := h
    obtain ⟨l, rfl⟩ := shp_vrs he
    exact ⟨l, by simpa using hl⟩
theorem own : ownKnob Tryz.prog.godebug = none := by kernel_rfl
theorem laidOut : laidOutB Tryz.prog = true := by kernel_rfl

namespace tells
/-- For every argument and every world. -/
theorem contract (H : Type) (enc : TypeId × Value → H) (W : World) (base : Nat) (args : Array Value) (ds gs : List (DataW H)) (before : List MemPlace)
    (hval : ∀ (j : Nat) t v, Tryz.f3.params[j]? = some t → args[j]? = some v → Value.okWide Tryz.prog W .any base t v)
    (hW : DataW.Whole enc Tryz.prog Tryz.f3.params.toList Rows.valueOpsSpec.vars false W args.toList ds gs before) (hsh : W.ShapedOpen Tryz.prog) :
    Calls Tryz.prog 3 args W fun e W' => ∃ v, e = .returned v ∧ Rows.valueOpsSpec.post enc Tryz.prog Tryz.f3 false true false false W args v W' := by
  have hW' := hW
  obtain ⟨p, q, hA, hV, rfl, _, _⟩ := hW
  have hA' : DataW.TrodAll enc Tryz.prog W 0 (fun _ => true) true [3, 23, 23, 24, 9] args.toList ds p := hA
  obtain ⟨v0, _, d0, _, p0, _, e0, rfl, _, h0, hA1⟩ := trodAll_cons hA'
  obtain ⟨v1, _, d1, _, p1, _, rfl, rfl, _, h1, hA2⟩ := trodAll_cons hA1
  obtain ⟨v2, _, d2, _, p2, _, rfl, rfl, _, h2, hA3⟩ := trodAll_cons hA2
  obtain ⟨v3, _, d3, _, p3, _, rfl, rfl, _, h3, hA4⟩ := trodAll_cons hA3
  obtain ⟨v4, _, d4, _, p4, _, rfl, rfl, _, h4, hA5⟩ := trodAll_cons hA4
  obtain ⟨rfl, rfl, _⟩ := trodAll_nil hA5
  obtain rfl : args = #[v0, v1, v2, v3, v4] := by cases args; simp_all
  obtain ⟨rfl, rfl⟩ := trodVars_none hV
  obtain ⟨n0, x0, s0, a0⟩ := arg_one ti_ok closed (t := 3) (by decide) (ty := _) rfl rfl (hval 0 3 v0 rfl rfl) h0
  obtain ⟨n1, x1, s1, a1⟩ := arg_agg ti_ok closed (t := 23) (by decide) (ty := _) rfl rfl (hval 1 23 v1 rfl rfl) h1
  obtain ⟨n2, x2, s2, a2⟩ := arg_agg ti_ok closed (t := 23) (by decide) (ty := _) rfl rfl (hval 2 23 v2 rfl rfl) h2
  obtain ⟨n3, x3, s3, a3⟩ := arg_one ti_ok closed (t := 24) (by decide) (ty := _) rfl rfl (hval 3 24 v3 rfl rfl) h3
  obtain ⟨n4, x4, s4, a4⟩ := arg_one ti_ok closed (t := 9) (by decide) (ty := _) rfl rfl (hval 4 9 v4 rfl rfl) h4
  obtain ⟨op, e⟩ := shp_i3 s0
  obtain rfl : x0 = .it .i64 op := by simpa using e
  obtain ⟨va, rfl⟩ := shp_vl s1
  obtain ⟨vb, rfl⟩ := shp_vl s2
  obtain ⟨l, rfl⟩ := shp_vs s3
  obtain ⟨nm, e⟩ := shp_st s4
  obtain rfl : x4 = .st nm := by simpa using e
  have hG : GOK (cellF W) := fun b hb => by
    obtain rfl := List.mem_singleton.1 hb
    exact cell_of_shapedOpen_int (t := 3) (zero := #[.int .i64 0]) hsh (by decide +kernel) (by kernel_rfl) rfl (by kernel_rfl) (by kernel_rfl) (by kernel_rfl)
  refine (FnC.enter (law22_ok op va vb l nm) (Tryz.call3 _ _) hG rfl ?_).mono ?_
  · intro j hj
    match j, hj with
    | 0, _ => exact a0
    | 1, _ => exact a1
    | 2, _ => exact a2
    | 3, _ => exact a3
    | 4, _ => exact a4
  · rintro e W' ⟨rfl, hB⟩
    exact ⟨_, rfl, law_post hW' rfl rfl rfl rfl rfl Tryz.underlying4 laidOut (by decide +kernel) hB⟩

noncomputable def wit : Array Value := #[.int .i64 0, .agg #[.int .i64 0, .int .i64 0, .string ⟨#[]⟩], .agg #[.int .i64 0, .int .i64 0, .string ⟨#[]⟩], .slice none 0 0, .string ⟨#[]⟩]
noncomputable def low : Nat := (World.holding Tryz.prog default ⟨#[], #[], []⟩).heap.size
/-- A world that holds what the listed variables are listed with: the error lies in a block of its own. -/
noncomputable def laidWorld (os : Os) : World :=
  { World.holding Tryz.prog os ⟨#[.cells #[.string ⟨#[98, 121, 116, 101, 115, 46, 66, 117, 102, 102, 101, 114, 58, 32, 116, 111, 111, 32, 108, 97, 114, 103, 101]⟩] 291], #[], []⟩ with
    heap := (laidHeap (World.holding Tryz.prog os ⟨#[.cells #[.string ⟨#[98, 121, 116, 101, 115, 46, 66, 117, 102, 102, 101, 114, 58, 32, 116, 111, 111, 32, 108, 97, 114, 103, 101]⟩] 291], #[], []⟩).heap [(3, Rows.laid_unicode_utf8_acceptRanges), (2, Rows.laid_unicode_utf8_first)]).modify 1 fun
      | .cells _ t frozen => .cells #[.iface 272 (.pointer (some ⟨low, 0, none⟩))] t frozen
      | o => o }
theorem laid_met (os : Os) : laidMet Tryz.prog Rows.valueOpsRow.laid ((laidWorld os).forCall (fun _ _ => 0) ⟨#[], wit, []⟩).memory :=
  laidMet_of_run' 8 (by kernel_rfl) (by kernel_rfl)
theorem reads (os : Os) {H : Type} (enc : TypeId × Value → H) : ∃ places, DataW.whole enc Tryz.prog ((laidWorld os).forCall (fun _ _ => 0) ⟨#[], wit, []⟩).memory Tryz.f3.params.toList Rows.valueOpsSpec.vars false wit.toList 8 = some ([.lit (.int .i64 0), .agg [.lit (.int .i64 0), .lit (.int .i64 0), .lit (.string [])], .agg [.lit (.int .i64 0), .lit (.int .i64 0), .lit (.string [])], .nil, .lit (.string [])], [], places) :=
  ⟨[], by kernel_rfl⟩

theorem lifted (os : Os) (started : os.Started) (H : Type) (enc : TypeId × Value → H) (F : Stop.Interp) :
    ReturnsInHanded {} Tryz.checked os 3 .any ((OpenSpec.ofChange Rows.valueOpsSpec).preRow enc Tryz.prog Tryz.f3 Rows.valueOpsRow.domain false Rows.valueOpsRow.laid) (((OpenSpec.ofChange Rows.valueOpsSpec).at F).post enc Tryz.prog Tryz.f3 false true false false) := by
  obtain ⟨places, hx⟩ := reads os enc
  refine returnsInHanded_of_row (C := Tryz.checked) (s := OpenSpec.ofChange Rows.valueOpsSpec) own started (by kernel_rfl) Tryz.func3
    (witness_row_at (enc := enc) (C := Tryz.checked) false (laidWorld os) wit rfl (by kernel_rfl) (by kernel_rfl) (by kernel_rfl)
      (OpenSpec.preRow_of_cond 8 hx (by kernel_rfl) (fun k hk => by cases hk) (by kernel_rfl) (laid_met os))) ?_
  intro W base args ds gs before hval hW _ _ _ _ hsh _
  exact contract H enc W base args ds gs before hval hW hsh

theorem said : Rows.ValueOpsSaid :=
  OpenClaim.holds_of_cond 3 Tryz.f3 rfl rfl rfl rfl rfl rfl rfl ⟨rfl, rfl, rfl, rfl, rfl⟩ rfl rfl rfl rfl rfl (by kernel_rfl) Tryz.func3 (by kernel_rfl)
    (of_decide_eq_true (by kernel_rfl)) (by unfold Func.isWrapper; first | (rw [if_pos (by decide +kernel)]; kernel_rfl) | (rw [if_neg (by decide +kernel)]; exact ⟨rfl, rfl⟩))
    (fun os started H enc _ F => by rw [OpenClaim.pre_eq_preRow]; exact lifted os started H enc F)

theorem plain (f : FuncId) (fn : Func) (hf : Tryz.pinned.checked.prog.funcNamed "flotsam/flotsamlaw22.ValueOps" = some f) (hfn : Tryz.pinned.checked.prog.funcs[f]? = some fn) :
    false = Tryz.pinned.checked.prog.looks [] ∧ ∀ (j : Nat) t, fn.params[j]? = some t → Tryz.pinned.checked.prog.wantsStandIn t = false := by
  obtain rfl : f = 3 := Option.some.inj ((show Tryz.prog.funcNamed "flotsam/flotsamlaw22.ValueOps" = some 3 by kernel_rfl).symm.trans hf) |>.symm
  obtain rfl : fn = Tryz.f3 := (Option.some.inj (Tryz.func3.symm.trans hfn)).symm
  refine ⟨by kernel_rfl, fun j t ht => ?_⟩
  have hall : ∀ t ∈ Tryz.f3.params, Tryz.prog.wantsStandIn t = false := by decide +kernel
  exact hall t (Array.mem_of_getElem? ht)

/-- The card. -/
theorem card : Rows.ValueOpsCardSaid :=
  Claim7.holds_tied_plain_at .later [] _ _ _ _ said (fun _ h => by cases h) (by kernel_rfl) (fun _ h => by cases h) valueOps_row_tie rfl ⟨rfl, rfl⟩ (by kernel_rfl) rfl plain (by kernel_rfl)
end tells
end Go.Proofs.YtajeadkdacgldaaGreatDoor
