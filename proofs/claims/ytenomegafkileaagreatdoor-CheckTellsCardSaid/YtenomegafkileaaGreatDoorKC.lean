/- Contracts of the functions that the law reaches, and the law. Conditions: none. -/
import Derived.Test.YtenomegafkileaaGreatDoorKB
import Derived.Test.YtenomegafkileaaGreatDoorSD
import Derived.Test.YtenomegafkileaaGreatDoorSC
import Derived.Test.YtenomegafkileaaGreatDoorCards
import Derived.Test.YtenomegafkileaaGreatDoorTie
set_option linter.all false
/- All problems of a disk. Conditions: none. -/
namespace Go.Proofs.YtenomegafkileaaGreatDoor
open Go.Sy
set_option maxRecDepth 100000
set_option linter.all false
def dod (d : Option Dk) (k : Nat) : Bool := decide (oddP d (k : Nat))
def ckA (F : Func) (d : Option Dk) (I : List Ino) (E : List Ent) (R : List Bool) (sl : List (Nat × AV)) (L : List (Int × Int)) : S := ⟨(0, .yld 9) :: (1, .ptr 2 0) :: sl, [(9, rgL 8 F), (8, .frame 14 [(2, .ptr 6 0)]), (6, .cells 1 [.ts 2 (L.map encP) 10]), (10, .tail 38 true), (5, .frame 6 []), (3, .frame 8 []), (2, .cells 1 [.d (.fp 209 (encX d I E R))])], 11⟩
def c1 (a i : Nat) : List (Nat × AV) := [(a, .d (.it .i64 ((i + 1 : Nat) : Nat)))]
def c2 (i k : Nat) : List (Nat × AV) := [(3, .d (.it .i64 ((i + 1 : Nat) : Nat))), (10, .d (.it .i64 (k : Nat)))]
theorem wk_trC {N : Nat} {σ τ τ' : S} (e : τ' = τ) (h : Wk N σ τ') : Wk N σ τ := by rw [← e]; exact h
theorem cells_ts2 {a b : List (List D)} (h : a = b) : some (Ob.cells 1 [.ts 2 a 10]) = some (Ob.cells 1 [.ts 2 b 10]) := by rw [h]
set_option maxHeartbeats 8000000 in
theorem check_ok (d : Option Dk) (hd : DkOK d) : FnC Tryz.prog 7 [.d (encD d)] (.d (.fs 2 ((probs (dod d) (xI (rdS d) 16) (xE (rdS d) 24) (fun b => ownK (fun i => (xI (rdS d) 16).getD i ino0) (fun i => decide (takP (rdS d) (i : Nat))) (b : Nat) 16)).map encP))) := by
  have hr := xread_ok d hd
  have hl : (reachR (kdI (xI (rdS d) 16)) (xE (rdS d) 24)).length = 16 := by unfold reachR; rw [iterR_len]; rfl
  have hx := xok_L (rdS d) 16 24 hl
  have hent := fun kind k hk h1 => hasE_ok hd hx kind k hk h1
  have hown := fun b => own_ok hd hx b
  unfold probs
  have hdod : (fun k => decide (oddP d (k : Nat))) = dod d := rfl
  rw [hdod] at hent
  generalize hRR : reachR (kdI (xI (rdS d) 16)) (xE (rdS d) 24) = R at *
  generalize hII : xI (rdS d) 16 = I at *
  generalize hEE : xE (rdS d) 24 = E at *
  generalize prbP (dod d) I E R = P at *
  have hPl := fun q => prbK_len P q
  have hBl := fun q => prbB_len (fun b => ownK (fun i => I.getD i ino0) (fun i => decide (takP (rdS d) (i : Nat))) (b : Nat) 16) q
  have hMl : ∀ L : List (Int × Int), (L.map encP).length = L.length := fun L => List.length_map ..
  refine FnC.intro ti_ok Tryz.func7 rfl Tryz.ntmps7 Tryz.call7 rfl (Nat.le_of_ble_eq_true rfl) rfl ?_
  (repeat' ((conv => whnf); first | (with_reducible first | refine Spl.tt ?_ | refine Spl.ff ?_) | ((with_reducible refine callE_id ?_); first | (refine CallE.con ⟨_, hr, ?_⟩) | refine CallE.inl ?_) | ((with_reducible refine callI_id ?_); first | with_reducible refine CallI.inl ti_ok i18 rfl ?_ | with_reducible refine CallI.inl ti_ok i16 rfl ?_ | refine CallI.inlN 2 ti_ok i29 rfl rfl rfl rfl ?_) | (with_reducible first | refine draw_auto ti_ok mixed (by decide +kernel) ?_ | refine g_i64 ?_ | refine g_u64 ?_ | refine g_u8 ?_ | refine g_iq ?_ | refine g_uq ?_ | refine g_rem ?_ | refine LetN.mk ?_ | refine g_hm ?_ | refine g_hb ?_ | refine g_lit ?_ | refine g_nm8 (fun x hx hu => ?_) | refine g_n8 (fun x hx hu => ?_) | refine g_b8 (fun x hx hu => ?_) | refine g_nm (fun x hx => ?_) | refine g_im (fun x hx => ?_) | refine g_n (fun x hx => ?_) | refine g_b (fun x hx => ?_) | refine g_and ?_ | refine g_c ?_ | refine Both.mk ?_ ?_ | refine NilS.ts ?_ | refine LetE.now ?_ | refine AtD.now ?_ | refine LetC.now ?_ | refine g_some ?_ | refine g_yk ?_ | refine g_nk ?_ | refine g_y ?_ | refine g_f ?_ | refine AtA.mk' ?_ | refine Spl.pd (fun h => ?_) (fun h => ?_) | refine Spl.peq (fun h => ?_) (fun h => ?_) | refine Spl.pne (fun h => ?_) (fun h => ?_) | refine Spl.seq (fun h => ?_) (fun h => ?_) | refine Spl.sne (fun h => ?_) (fun h => ?_) | refine Spl.nt ?_ | refine Spl.mk (fun h => ?_) (fun h => ?_))))
  refine RangeS.intro ti_ok i33 rfl rfl ?_
  (repeat' ((conv => whnf); first | (with_reducible first | refine Spl.tt ?_ | refine Spl.ff ?_) | (with_reducible first | refine draw_auto ti_ok mixed (by decide +kernel) ?_ | refine g_i64 ?_ | refine g_u64 ?_ | refine g_u8 ?_ | refine g_iq ?_ | refine g_uq ?_ | refine g_rem ?_ | refine LetN.mk ?_ | refine g_hm ?_ | refine g_hb ?_ | refine g_lit ?_ | refine g_nm8 (fun x hx hu => ?_) | refine g_n8 (fun x hx hu => ?_) | refine g_b8 (fun x hx hu => ?_) | refine g_nm (fun x hx => ?_) | refine g_im (fun x hx => ?_) | refine g_n (fun x hx => ?_) | refine g_b (fun x hx => ?_) | refine g_and ?_ | refine g_c ?_ | refine Both.mk ?_ ?_ | refine NilS.ts ?_ | refine LetE.now ?_ | refine AtD.now ?_ | refine LetC.now ?_ | refine g_some ?_ | refine g_yk ?_ | refine g_nk ?_ | refine g_y ?_ | refine g_f ?_ | refine AtA.mk' ?_ | refine Spl.pd (fun h => ?_) (fun h => ?_) | refine Spl.peq (fun h => ?_) (fun h => ?_) | refine Spl.pne (fun h => ?_) (fun h => ?_) | refine Spl.seq (fun h => ?_) (fun h => ?_) | refine Spl.sne (fun h => ?_) (fun h => ?_) | refine Spl.nt ?_ | refine Spl.mk (fun h => ?_) (fun h => ?_))))
  conv => whnf
  refine LoopS.wk (Wk.nlTs 6 0 1 2 38 (by with_unfolding_all exact rfl) (by with_unfolding_all exact rfl)) ?_
  refine LoopS.wk (τ := ckA Tryz.f29 d I E R (c1 3 0) []) (Wk.enF (And.intro rfl (And.intro rfl (And.intro rfl trivial))) (by (repeat (first | exact trivial | refine And.intro (obw_eq rfl (by with_unfolding_all exact rfl)) ?_ | refine And.intro (obw_fr (by with_unfolding_all exact rfl) (by (repeat (first | exact trivial | refine And.intro (by with_unfolding_all exact rfl) ?_)))) ?_))) rfl) ?_
  refine loop_ruleW ti_ok (fun i : Nat => i ≤ 5) (fun i => ckA Tryz.f29 d I E R (c1 3 i) (prbK P (24 * i))) (fun i => 5 - i) 0 (Nat.zero_le _) (Wk.en ⟨And.intro rfl (And.intro rfl (And.intro rfl trivial)), (by (repeat (first | exact trivial | refine And.intro rfl ?_))), rfl⟩) ?_
  intro i hi
  by_cases hi5 : i < 5
  · (repeat' ((conv => whnf); first | (with_reducible first | refine Spl.tt ?_ | refine Spl.ff ?_) | (with_reducible first | refine draw_auto ti_ok mixed (by decide +kernel) ?_ | refine g_i64 ?_ | refine g_u64 ?_ | refine g_u8 ?_ | refine g_iq ?_ | refine g_uq ?_ | refine g_rem ?_ | refine LetN.mk ?_ | refine g_hm ?_ | refine g_hb ?_ | refine g_lit ?_ | refine g_nm8 (fun x hx hu => ?_) | refine g_n8 (fun x hx hu => ?_) | refine g_b8 (fun x hx hu => ?_) | refine g_nm (fun x hx => ?_) | refine g_im (fun x hx => ?_) | refine g_n (fun x hx => ?_) | refine g_b (fun x hx => ?_) | refine g_and ?_ | refine g_c ?_ | refine Both.mk ?_ ?_ | refine NilS.ts ?_ | refine LetE.now ?_ | refine AtD.now ?_ | refine LetC.now ?_ | refine g_some ?_ | refine g_yk ?_ | refine g_nk ?_ | refine g_y ?_ | refine g_f ?_ | refine AtA.mk' ?_ | refine Spl.pd (fun h => ?_) (fun h => ?_) | refine Spl.peq (fun h => ?_) (fun h => ?_) | refine Spl.pne (fun h => ?_) (fun h => ?_) | refine Spl.seq (fun h => ?_) (fun h => ?_) | refine Spl.sne (fun h => ?_) (fun h => ?_) | refine Spl.nt ?_ | refine Spl.mk (fun h => ?_) (fun h => ?_))))
    conv => whnf
    refine loop_ruleW ti_ok (fun k : Nat => k ≤ 24) (fun k => ckA Tryz.f29 d I E R (c2 i k) (prbK P (24 * i + k))) (fun k => 24 - k) 0 (Nat.zero_le _) (Wk.enF (And.intro rfl (And.intro rfl (And.intro rfl (And.intro rfl trivial)))) (by (repeat (first | exact trivial | refine And.intro (obw_eq rfl (by with_unfolding_all exact rfl)) ?_ | refine And.intro (obw_fr (by with_unfolding_all exact rfl) (by (repeat (first | exact trivial | refine And.intro (by with_unfolding_all exact rfl) ?_)))) ?_))) rfl) ?_
    intro k hk
    by_cases hk24 : k < 24
    · have hek := hent (i + 1) k hk24 (by omega)
      have h1 := hPl (24 * i + k)
      have h2 := hMl (prbK P (24 * i + k))
      by_cases hP : P (i + 1) k = false
      · have hno := prbK_no (P := P) hk24 hP
        rw [hP] at hek
        (repeat' ((conv => whnf); first | (with_reducible first | refine Spl.tt ?_ | refine Spl.ff ?_) | ((with_reducible refine callE_id ?_); (refine CallE.con ⟨_, hek, ?_⟩)) | (with_reducible first | refine draw_auto ti_ok mixed (by decide +kernel) ?_ | refine g_i64 ?_ | refine g_u64 ?_ | refine g_u8 ?_ | refine g_iq ?_ | refine g_uq ?_ | refine g_rem ?_ | refine LetN.mk ?_ | refine g_hm ?_ | refine g_hb ?_ | refine g_lit ?_ | refine g_nm8 (fun x hx hu => ?_) | refine g_n8 (fun x hx hu => ?_) | refine g_b8 (fun x hx hu => ?_) | refine g_nm (fun x hx => ?_) | refine g_im (fun x hx => ?_) | refine g_n (fun x hx => ?_) | refine g_b (fun x hx => ?_) | refine g_and ?_ | refine g_c ?_ | refine Both.mk ?_ ?_ | refine NilS.ts ?_ | refine LetE.now ?_ | refine AtD.now ?_ | refine LetC.now ?_ | refine g_some ?_ | refine g_yk ?_ | refine g_nk ?_ | refine g_y ?_ | refine g_f ?_ | refine AtA.mk' ?_ | refine Spl.pd (fun h => ?_) (fun h => ?_) | refine Spl.peq (fun h => ?_) (fun h => ?_) | refine Spl.pne (fun h => ?_) (fun h => ?_) | refine Spl.seq (fun h => ?_) (fun h => ?_) | refine Spl.sne (fun h => ?_) (fun h => ?_) | refine Spl.nt ?_ | refine Spl.mk (fun h => ?_) (fun h => ?_))))
        refine ⟨k + 1, hk24, by first | omega | (dsimp only; omega), wk_trC (congrArg (ckA Tryz.f29 d I E R (c2 i (k + 1))) hno.symm) (Wk.enF (And.intro rfl (And.intro rfl (And.intro rfl (And.intro (it_eq (by omega)) trivial)))) (by (repeat (first | exact trivial | refine And.intro (obw_eq rfl (by with_unfolding_all exact rfl)) ?_ | refine And.intro (obw_fr (by with_unfolding_all exact rfl) (by (repeat (first | exact trivial | refine And.intro (by with_unfolding_all exact rfl) ?_)))) ?_))) rfl)⟩
      · have hP : P (i + 1) k = true := by simpa using hP
        have hyes := prbK_yes (P := P) hk24 hP
        rw [hP] at hek
        (repeat' ((conv => whnf); first | (with_reducible first | refine Spl.tt ?_ | refine Spl.ff ?_) | ((with_reducible refine callE_id ?_); (refine CallE.con ⟨_, hek, ?_⟩)) | with_reducible refine YieldI.intro ti_ok (by with_unfolding_all exact rfl) (by with_unfolding_all exact rfl) (by with_unfolding_all exact rfl) ?_ | (with_reducible first | refine draw_auto ti_ok mixed (by decide +kernel) ?_ | refine g_i64 ?_ | refine g_u64 ?_ | refine g_u8 ?_ | refine g_iq ?_ | refine g_uq ?_ | refine g_rem ?_ | refine LetN.mk ?_ | refine g_hm ?_ | refine g_hb ?_ | refine g_lit ?_ | refine g_nm8 (fun x hx hu => ?_) | refine g_n8 (fun x hx hu => ?_) | refine g_b8 (fun x hx hu => ?_) | refine g_nm (fun x hx => ?_) | refine g_im (fun x hx => ?_) | refine g_n (fun x hx => ?_) | refine g_b (fun x hx => ?_) | refine g_and ?_ | refine g_c ?_ | refine Both.mk ?_ ?_ | refine NilS.ts ?_ | refine LetE.now ?_ | refine AtD.now ?_ | refine LetC.now ?_ | refine g_some ?_ | refine g_yk ?_ | refine g_nk ?_ | refine g_y ?_ | refine g_f ?_ | refine AtA.mk' ?_ | refine Spl.pd (fun h => ?_) (fun h => ?_) | refine Spl.peq (fun h => ?_) (fun h => ?_) | refine Spl.pne (fun h => ?_) (fun h => ?_) | refine Spl.seq (fun h => ?_) (fun h => ?_) | refine Spl.sne (fun h => ?_) (fun h => ?_) | refine Spl.nt ?_ | refine Spl.mk (fun h => ?_) (fun h => ?_))))
        refine ⟨k + 1, hk24, by first | omega | (dsimp only; omega), wk_trC (congrArg (ckA Tryz.f29 d I E R (c2 i (k + 1))) hyes.symm) (Wk.enF (And.intro rfl (And.intro rfl (And.intro rfl (And.intro (it_eq (by omega)) trivial)))) (And.intro (obw_eq rfl rfl) (And.intro (obw_fr rfl (And.intro rfl trivial)) (And.intro (obw_eq rfl (cells_ts2 ?_)) (And.intro (obw_eq rfl rfl) (And.intro (obw_fr rfl trivial) (And.intro (obw_fr rfl trivial) (And.intro (obw_eq rfl rfl) trivial))))))) rfl)⟩
        rw [map_encP]; rfl
    · have hke : k = 24 := by omega
      (repeat' ((conv => whnf); first | (with_reducible first | refine Spl.tt ?_ | refine Spl.ff ?_) | (with_reducible first | refine draw_auto ti_ok mixed (by decide +kernel) ?_ | refine g_i64 ?_ | refine g_u64 ?_ | refine g_u8 ?_ | refine g_iq ?_ | refine g_uq ?_ | refine g_rem ?_ | refine LetN.mk ?_ | refine g_hm ?_ | refine g_hb ?_ | refine g_lit ?_ | refine g_nm8 (fun x hx hu => ?_) | refine g_n8 (fun x hx hu => ?_) | refine g_b8 (fun x hx hu => ?_) | refine g_nm (fun x hx => ?_) | refine g_im (fun x hx => ?_) | refine g_n (fun x hx => ?_) | refine g_b (fun x hx => ?_) | refine g_and ?_ | refine g_c ?_ | refine Both.mk ?_ ?_ | refine NilS.ts ?_ | refine LetE.now ?_ | refine AtD.now ?_ | refine LetC.now ?_ | refine g_some ?_ | refine g_yk ?_ | refine g_nk ?_ | refine g_y ?_ | refine g_f ?_ | refine AtA.mk' ?_ | refine Spl.pd (fun h => ?_) (fun h => ?_) | refine Spl.peq (fun h => ?_) (fun h => ?_) | refine Spl.pne (fun h => ?_) (fun h => ?_) | refine Spl.seq (fun h => ?_) (fun h => ?_) | refine Spl.sne (fun h => ?_) (fun h => ?_) | refine Spl.nt ?_ | refine Spl.mk (fun h => ?_) (fun h => ?_))))
      refine ⟨i + 1, hi5, by first | omega | (dsimp only; omega), wk_trC (congrArg (ckA Tryz.f29 d I E R (c1 3 (i + 1))) (congrArg (prbK P) (show 24 * i + k = 24 * (i + 1) by omega))) (Wk.enF (And.intro rfl (And.intro rfl (And.intro (it_eq (by omega)) trivial))) (by (repeat (first | exact trivial | refine And.intro (obw_eq rfl (by with_unfolding_all exact rfl)) ?_ | refine And.intro (obw_fr (by with_unfolding_all exact rfl) (by (repeat (first | exact trivial | refine And.intro (by with_unfolding_all exact rfl) ?_)))) ?_))) rfl)⟩
  · have hie : i = 5 := by omega
    rw [hie]
    (repeat' ((conv => whnf); first | (with_reducible first | refine Spl.tt ?_ | refine Spl.ff ?_) | (with_reducible first | refine draw_auto ti_ok mixed (by decide +kernel) ?_ | refine g_i64 ?_ | refine g_u64 ?_ | refine g_u8 ?_ | refine g_iq ?_ | refine g_uq ?_ | refine g_rem ?_ | refine LetN.mk ?_ | refine g_hm ?_ | refine g_hb ?_ | refine g_lit ?_ | refine g_nm8 (fun x hx hu => ?_) | refine g_n8 (fun x hx hu => ?_) | refine g_b8 (fun x hx hu => ?_) | refine g_nm (fun x hx => ?_) | refine g_im (fun x hx => ?_) | refine g_n (fun x hx => ?_) | refine g_b (fun x hx => ?_) | refine g_and ?_ | refine g_c ?_ | refine Both.mk ?_ ?_ | refine NilS.ts ?_ | refine LetE.now ?_ | refine AtD.now ?_ | refine LetC.now ?_ | refine g_some ?_ | refine g_yk ?_ | refine g_nk ?_ | refine g_y ?_ | refine g_f ?_ | refine AtA.mk' ?_ | refine Spl.pd (fun h => ?_) (fun h => ?_) | refine Spl.peq (fun h => ?_) (fun h => ?_) | refine Spl.pne (fun h => ?_) (fun h => ?_) | refine Spl.seq (fun h => ?_) (fun h => ?_) | refine Spl.sne (fun h => ?_) (fun h => ?_) | refine Spl.nt ?_ | refine Spl.mk (fun h => ?_) (fun h => ?_))))
    conv => whnf
    refine loop_ruleW ti_ok (fun q : Nat => q ≤ 24) (fun q => ckA Tryz.f29 d I E R (c1 5 q) (prbK P 120 ++ prbB (fun b => ownK (fun i => I.getD i ino0) (fun i => decide (takP (rdS d) (i : Nat))) (b : Nat) 16) q)) (fun q => 24 - q) 0 (Nat.zero_le _) (wk_trC (congrArg (ckA Tryz.f29 d I E R (c1 5 0)) (show prbK P 120 = prbK P 120 ++ prbB (fun b => ownK (fun i => I.getD i ino0) (fun i => decide (takP (rdS d) (i : Nat))) (b : Nat) 16) 0 by rw [show prbB (fun b => ownK (fun i => I.getD i ino0) (fun i => decide (takP (rdS d) (i : Nat))) (b : Nat) 16) 0 = [] from rfl, List.append_nil])) (Wk.enF (And.intro rfl (And.intro rfl (And.intro rfl trivial))) (by (repeat (first | exact trivial | refine And.intro (obw_eq rfl (by with_unfolding_all exact rfl)) ?_ | refine And.intro (obw_fr (by with_unfolding_all exact rfl) (by (repeat (first | exact trivial | refine And.intro (by with_unfolding_all exact rfl) ?_)))) ?_))) rfl)) ?_
    intro q hq
    by_cases hq24 : q < 24
    · have how := hown ((q + 1 : Nat) : Int)
      have h1 := hPl 120
      have h3 := hBl q
      have h2 := hMl (prbK P 120 ++ prbB (fun b => ownK (fun i => I.getD i ino0) (fun i => decide (takP (rdS d) (i : Nat))) (b : Nat) 16) q)
      rw [List.length_append] at h2
      have hle := ownK_le (fun i => I.getD i ino0) (fun i => decide (takP (rdS d) (i : Nat))) ((q + 1 : Nat) : Int) 16
      have hyes := prbB_yes (own := (fun b => ownK (fun i => I.getD i ino0) (fun i => decide (takP (rdS d) (i : Nat))) (b : Nat) 16)) (k := q)
      have hno := prbB_no (own := (fun b => ownK (fun i => I.getD i ino0) (fun i => decide (takP (rdS d) (i : Nat))) (b : Nat) 16)) (k := q)
      by_cases ho : 1 < ownK (fun i => I.getD i ino0) (fun i => decide (takP (rdS d) (i : Nat))) ((q + 1 : Nat) : Int) 16
      · (repeat' ((conv => whnf); first | (with_reducible first | refine Spl.tt ?_ | refine Spl.ff ?_) | ((with_reducible refine callE_id ?_); (refine CallE.con ⟨_, how, ?_⟩)) | with_reducible refine YieldI.intro ti_ok (by with_unfolding_all exact rfl) (by with_unfolding_all exact rfl) (by with_unfolding_all exact rfl) ?_ | (with_reducible first | refine draw_auto ti_ok mixed (by decide +kernel) ?_ | refine g_i64 ?_ | refine g_u64 ?_ | refine g_u8 ?_ | refine g_iq ?_ | refine g_uq ?_ | refine g_rem ?_ | refine LetN.mk ?_ | refine g_hm ?_ | refine g_hb ?_ | refine g_lit ?_ | refine g_nm8 (fun x hx hu => ?_) | refine g_n8 (fun x hx hu => ?_) | refine g_b8 (fun x hx hu => ?_) | refine g_nm (fun x hx => ?_) | refine g_im (fun x hx => ?_) | refine g_n (fun x hx => ?_) | refine g_b (fun x hx => ?_) | refine g_and ?_ | refine g_c ?_ | refine Both.mk ?_ ?_ | refine NilS.ts ?_ | refine LetE.now ?_ | refine AtD.now ?_ | refine LetC.now ?_ | refine g_some ?_ | refine g_yk ?_ | refine g_nk ?_ | refine g_y ?_ | refine g_f ?_ | refine AtA.mk' ?_ | refine Spl.pd (fun h => ?_) (fun h => ?_) | refine Spl.peq (fun h => ?_) (fun h => ?_) | refine Spl.pne (fun h => ?_) (fun h => ?_) | refine Spl.seq (fun h => ?_) (fun h => ?_) | refine Spl.sne (fun h => ?_) (fun h => ?_) | refine Spl.nt ?_ | refine Spl.mk (fun h => ?_) (fun h => ?_))))
        refine ⟨q + 1, hq24, by first | omega | (dsimp only; omega), wk_trC (congrArg (ckA Tryz.f29 d I E R (c1 5 (q + 1))) ((List.append_assoc _ _ _).trans (congrArg (prbK P 120 ++ ·) (hyes ho).symm))) (Wk.enF (And.intro rfl (And.intro rfl (And.intro (it_eq (by omega)) trivial))) (And.intro (obw_eq rfl rfl) (And.intro (obw_fr rfl (And.intro rfl trivial)) (And.intro (obw_eq rfl (cells_ts2 ?_)) (And.intro (obw_eq rfl rfl) (And.intro (obw_fr rfl trivial) (And.intro (obw_fr rfl trivial) (And.intro (obw_eq rfl rfl) trivial))))))) rfl)⟩
        rw [map_encP]; rfl
      · (repeat' ((conv => whnf); first | (with_reducible first | refine Spl.tt ?_ | refine Spl.ff ?_) | ((with_reducible refine callE_id ?_); (refine CallE.con ⟨_, how, ?_⟩)) | (with_reducible first | refine draw_auto ti_ok mixed (by decide +kernel) ?_ | refine g_i64 ?_ | refine g_u64 ?_ | refine g_u8 ?_ | refine g_iq ?_ | refine g_uq ?_ | refine g_rem ?_ | refine LetN.mk ?_ | refine g_hm ?_ | refine g_hb ?_ | refine g_lit ?_ | refine g_nm8 (fun x hx hu => ?_) | refine g_n8 (fun x hx hu => ?_) | refine g_b8 (fun x hx hu => ?_) | refine g_nm (fun x hx => ?_) | refine g_im (fun x hx => ?_) | refine g_n (fun x hx => ?_) | refine g_b (fun x hx => ?_) | refine g_and ?_ | refine g_c ?_ | refine Both.mk ?_ ?_ | refine NilS.ts ?_ | refine LetE.now ?_ | refine AtD.now ?_ | refine LetC.now ?_ | refine g_some ?_ | refine g_yk ?_ | refine g_nk ?_ | refine g_y ?_ | refine g_f ?_ | refine AtA.mk' ?_ | refine Spl.pd (fun h => ?_) (fun h => ?_) | refine Spl.peq (fun h => ?_) (fun h => ?_) | refine Spl.pne (fun h => ?_) (fun h => ?_) | refine Spl.seq (fun h => ?_) (fun h => ?_) | refine Spl.sne (fun h => ?_) (fun h => ?_) | refine Spl.nt ?_ | refine Spl.mk (fun h => ?_) (fun h => ?_))))
        refine ⟨q + 1, hq24, by first | omega | (dsimp only; omega), wk_trC (congrArg (ckA Tryz.f29 d I E R (c1 5 (q + 1))) (congrArg (prbK P 120 ++ ·) (hno ho).symm)) (Wk.enF (And.intro rfl (And.intro rfl (And.intro (it_eq (by omega)) trivial))) (by (repeat (first | exact trivial | refine And.intro (obw_eq rfl (by with_unfolding_all exact rfl)) ?_ | refine And.intro (obw_fr (by with_unfolding_all exact rfl) (by (repeat (first | exact trivial | refine And.intro (by with_unfolding_all exact rfl) ?_)))) ?_))) rfl)⟩
    · have hqe : q = 24 := by omega
      rw [hqe]
      (repeat' ((conv => whnf); first | (with_reducible first | refine Spl.tt ?_ | refine Spl.ff ?_) | (with_reducible first | refine draw_auto ti_ok mixed (by decide +kernel) ?_ | refine g_i64 ?_ | refine g_u64 ?_ | refine g_u8 ?_ | refine g_iq ?_ | refine g_uq ?_ | refine g_rem ?_ | refine LetN.mk ?_ | refine g_hm ?_ | refine g_hb ?_ | refine g_lit ?_ | refine g_nm8 (fun x hx hu => ?_) | refine g_n8 (fun x hx hu => ?_) | refine g_b8 (fun x hx hu => ?_) | refine g_nm (fun x hx => ?_) | refine g_im (fun x hx => ?_) | refine g_n (fun x hx => ?_) | refine g_b (fun x hx => ?_) | refine g_and ?_ | refine g_c ?_ | refine Both.mk ?_ ?_ | refine NilS.ts ?_ | refine LetE.now ?_ | refine AtD.now ?_ | refine LetC.now ?_ | refine g_some ?_ | refine g_yk ?_ | refine g_nk ?_ | refine g_y ?_ | refine g_f ?_ | refine AtA.mk' ?_ | refine Spl.pd (fun h => ?_) (fun h => ?_) | refine Spl.peq (fun h => ?_) (fun h => ?_) | refine Spl.pne (fun h => ?_) (fun h => ?_) | refine Spl.seq (fun h => ?_) (fun h => ?_) | refine Spl.sne (fun h => ?_) (fun h => ?_) | refine Spl.nt ?_ | refine Spl.mk (fun h => ?_) (fun h => ?_))))
      rfl
end Go.Proofs.YtenomegafkileaaGreatDoor

/- Is a disk clean? Conditions: none. -/
namespace Go.Proofs.YtenomegafkileaaGreatDoor
open Go.Sy
set_option maxRecDepth 100000
set_option linter.all false
def dOwn (d : Option Dk) (b : Nat) : Nat := ownK (fun i => (xI (rdS d) 16).getD i ino0) (fun i => decide (takP (rdS d) (i : Nat))) (b : Nat) 16
theorem prbK_ne {P : Nat → Nat → Bool} {i k : Nat} (hi : i < 5) (hk : k < 24) (h : P (i + 1) k = true) : prbK P 120 ≠ [] := fun q => by
  unfold prbK at q
  have hm : 24 * i + k ∈ (List.range 120).filter fun j => P (j / 24 + 1) (j % 24) := by
    rw [List.mem_filter]
    refine ⟨List.mem_range.2 (by omega), ?_⟩
    rw [show (24 * i + k) / 24 = i by omega, show (24 * i + k) % 24 = k by omega]
    exact h
  rw [List.map_eq_nil_iff.1 q] at hm
  cases hm
theorem prbB_ne {own : Nat → Nat} {k : Nat} (hk : k < 24) (h : 1 < own (k + 1)) : prbB own 24 ≠ [] := fun q => by
  unfold prbB at q
  have hm : k ∈ (List.range 24).filter fun j => decide (1 < own (j + 1)) := by
    rw [List.mem_filter]
    exact ⟨List.mem_range.2 hk, decide_eq_true h⟩
  rw [List.map_eq_nil_iff.1 q] at hm
  cases hm
def clA (F : Func) (d : Option Dk) (I : List Ino) (E : List Ent) (R : List Bool) (sl : List (Nat × AV)) : S := ⟨(0, .yld 4) :: (1, .ptr 2 0) :: sl, [(4, rgL 3 F), (3, .frame 8 [(2, .ptr 0 0)]), (2, .cells 1 [.d (.fp 209 (encX d I E R))]), (0, .cells 1 [.d (.bl false)])], 5⟩
set_option maxHeartbeats 8000000 in
theorem clean_ok (d : Option Dk) (hd : DkOK d) : FnC Tryz.prog 9 [.d (encD d)] (.d (.bl (decide (probs (dod d) (xI (rdS d) 16) (xE (rdS d) 24) (dOwn d) = [])))) := by
  have hr := xread_ok d hd
  have hl : (reachR (kdI (xI (rdS d) 16)) (xE (rdS d) 24)).length = 16 := by unfold reachR; rw [iterR_len]; rfl
  have hx := xok_L (rdS d) 16 24 hl
  have hent := fun kind k hk h1 => hasE_ok hd hx kind k hk h1
  have hown := fun b => own_ok hd hx b
  unfold probs
  have hdod : (fun k => decide (oddP d (k : Nat))) = dod d := rfl
  rw [hdod] at hent
  generalize hRR : reachR (kdI (xI (rdS d) 16)) (xE (rdS d) 24) = R at *
  have hO : ∀ b : Nat, ownK (fun i => (xI (rdS d) 16).getD i ino0) (fun i => decide (takP (rdS d) (i : Nat))) (b : Nat) 16 = dOwn d b := fun b => rfl
  generalize dOwn d = O at *
  generalize hII : xI (rdS d) 16 = I at *
  generalize hEE : xE (rdS d) 24 = E at *
  generalize prbP (dod d) I E R = P at *
  refine FnC.intro ti_ok Tryz.func9 rfl Tryz.ntmps9 Tryz.call9 rfl (Nat.le_of_ble_eq_true rfl) rfl ?_
  (repeat' ((conv => whnf); first | (with_reducible first | refine Spl.tt ?_ | refine Spl.ff ?_) | ((with_reducible refine callE_id ?_); first | (refine CallE.con ⟨_, hr, ?_⟩) | refine CallE.inl ?_) | ((with_reducible refine callI_id ?_); first | with_reducible refine CallI.inl ti_ok i18 rfl ?_) | (with_reducible first | refine draw_auto ti_ok mixed (by decide +kernel) ?_ | refine g_i64 ?_ | refine g_u64 ?_ | refine g_u8 ?_ | refine g_iq ?_ | refine g_uq ?_ | refine g_rem ?_ | refine LetN.mk ?_ | refine g_hm ?_ | refine g_hb ?_ | refine g_lit ?_ | refine g_nm8 (fun x hx hu => ?_) | refine g_n8 (fun x hx hu => ?_) | refine g_b8 (fun x hx hu => ?_) | refine g_nm (fun x hx => ?_) | refine g_im (fun x hx => ?_) | refine g_n (fun x hx => ?_) | refine g_b (fun x hx => ?_) | refine g_and ?_ | refine g_c ?_ | refine Both.mk ?_ ?_ | refine NilS.ts ?_ | refine LetE.now ?_ | refine AtD.now ?_ | refine LetC.now ?_ | refine g_some ?_ | refine g_yk ?_ | refine g_nk ?_ | refine g_y ?_ | refine g_f ?_ | refine AtA.mk' ?_ | refine Spl.pd (fun h => ?_) (fun h => ?_) | refine Spl.peq (fun h => ?_) (fun h => ?_) | refine Spl.pne (fun h => ?_) (fun h => ?_) | refine Spl.seq (fun h => ?_) (fun h => ?_) | refine Spl.sne (fun h => ?_) (fun h => ?_) | refine Spl.nt ?_ | refine Spl.mk (fun h => ?_) (fun h => ?_))))
  refine RangeS.intro ti_ok i33 rfl rfl ?_
  (repeat' ((conv => whnf); first | (with_reducible first | refine Spl.tt ?_ | refine Spl.ff ?_) | (with_reducible first | refine draw_auto ti_ok mixed (by decide +kernel) ?_ | refine g_i64 ?_ | refine g_u64 ?_ | refine g_u8 ?_ | refine g_iq ?_ | refine g_uq ?_ | refine g_rem ?_ | refine LetN.mk ?_ | refine g_hm ?_ | refine g_hb ?_ | refine g_lit ?_ | refine g_nm8 (fun x hx hu => ?_) | refine g_n8 (fun x hx hu => ?_) | refine g_b8 (fun x hx hu => ?_) | refine g_nm (fun x hx => ?_) | refine g_im (fun x hx => ?_) | refine g_n (fun x hx => ?_) | refine g_b (fun x hx => ?_) | refine g_and ?_ | refine g_c ?_ | refine Both.mk ?_ ?_ | refine NilS.ts ?_ | refine LetE.now ?_ | refine AtD.now ?_ | refine LetC.now ?_ | refine g_some ?_ | refine g_yk ?_ | refine g_nk ?_ | refine g_y ?_ | refine g_f ?_ | refine AtA.mk' ?_ | refine Spl.pd (fun h => ?_) (fun h => ?_) | refine Spl.peq (fun h => ?_) (fun h => ?_) | refine Spl.pne (fun h => ?_) (fun h => ?_) | refine Spl.seq (fun h => ?_) (fun h => ?_) | refine Spl.sne (fun h => ?_) (fun h => ?_) | refine Spl.nt ?_ | refine Spl.mk (fun h => ?_) (fun h => ?_))))
  conv => whnf
  refine LoopS.wk (τ := clA Tryz.f9 d I E R (c1 3 0)) (Wk.enF (And.intro rfl (And.intro rfl (And.intro rfl trivial))) (by (repeat (first | exact trivial | refine And.intro (obw_eq rfl (by with_unfolding_all exact rfl)) ?_ | refine And.intro (obw_fr (by with_unfolding_all exact rfl) (by (repeat (first | exact trivial | refine And.intro (by with_unfolding_all exact rfl) ?_)))) ?_))) rfl) ?_
  refine loop_ruleW ti_ok (fun i : Nat => i ≤ 5 ∧ prbK P (24 * i) = []) (fun i => clA Tryz.f9 d I E R (c1 3 i)) (fun i => 5 - i) 0 ⟨Nat.zero_le _, rfl⟩ (Wk.en ⟨And.intro rfl (And.intro rfl (And.intro rfl trivial)), (by (repeat (first | exact trivial | refine And.intro rfl ?_))), rfl⟩) ?_
  intro i ⟨hi, hn0⟩
  by_cases hi5 : i < 5
  · (repeat' ((conv => whnf); first | (with_reducible first | refine Spl.tt ?_ | refine Spl.ff ?_) | (with_reducible first | refine draw_auto ti_ok mixed (by decide +kernel) ?_ | refine g_i64 ?_ | refine g_u64 ?_ | refine g_u8 ?_ | refine g_iq ?_ | refine g_uq ?_ | refine g_rem ?_ | refine LetN.mk ?_ | refine g_hm ?_ | refine g_hb ?_ | refine g_lit ?_ | refine g_nm8 (fun x hx hu => ?_) | refine g_n8 (fun x hx hu => ?_) | refine g_b8 (fun x hx hu => ?_) | refine g_nm (fun x hx => ?_) | refine g_im (fun x hx => ?_) | refine g_n (fun x hx => ?_) | refine g_b (fun x hx => ?_) | refine g_and ?_ | refine g_c ?_ | refine Both.mk ?_ ?_ | refine NilS.ts ?_ | refine LetE.now ?_ | refine AtD.now ?_ | refine LetC.now ?_ | refine g_some ?_ | refine g_yk ?_ | refine g_nk ?_ | refine g_y ?_ | refine g_f ?_ | refine AtA.mk' ?_ | refine Spl.pd (fun h => ?_) (fun h => ?_) | refine Spl.peq (fun h => ?_) (fun h => ?_) | refine Spl.pne (fun h => ?_) (fun h => ?_) | refine Spl.seq (fun h => ?_) (fun h => ?_) | refine Spl.sne (fun h => ?_) (fun h => ?_) | refine Spl.nt ?_ | refine Spl.mk (fun h => ?_) (fun h => ?_))))
    conv => whnf
    refine loop_ruleW ti_ok (fun k : Nat => k ≤ 24 ∧ prbK P (24 * i + k) = []) (fun k => clA Tryz.f9 d I E R (c2 i k)) (fun k => 24 - k) 0 ⟨Nat.zero_le _, hn0⟩ (Wk.enF (And.intro rfl (And.intro rfl (And.intro rfl (And.intro rfl trivial)))) (by (repeat (first | exact trivial | refine And.intro (obw_eq rfl (by with_unfolding_all exact rfl)) ?_ | refine And.intro (obw_fr (by with_unfolding_all exact rfl) (by (repeat (first | exact trivial | refine And.intro (by with_unfolding_all exact rfl) ?_)))) ?_))) rfl) ?_
    intro k ⟨hk, hn⟩
    by_cases hk24 : k < 24
    · have hek := hent (i + 1) k hk24 (by omega)
      by_cases hP : P (i + 1) k = false
      · have hno := (prbK_no (P := P) hk24 hP).trans hn
        rw [hP] at hek
        (repeat' ((conv => whnf); first | (with_reducible first | refine Spl.tt ?_ | refine Spl.ff ?_) | ((with_reducible refine callE_id ?_); (refine CallE.con ⟨_, hek, ?_⟩)) | (with_reducible first | refine draw_auto ti_ok mixed (by decide +kernel) ?_ | refine g_i64 ?_ | refine g_u64 ?_ | refine g_u8 ?_ | refine g_iq ?_ | refine g_uq ?_ | refine g_rem ?_ | refine LetN.mk ?_ | refine g_hm ?_ | refine g_hb ?_ | refine g_lit ?_ | refine g_nm8 (fun x hx hu => ?_) | refine g_n8 (fun x hx hu => ?_) | refine g_b8 (fun x hx hu => ?_) | refine g_nm (fun x hx => ?_) | refine g_im (fun x hx => ?_) | refine g_n (fun x hx => ?_) | refine g_b (fun x hx => ?_) | refine g_and ?_ | refine g_c ?_ | refine Both.mk ?_ ?_ | refine NilS.ts ?_ | refine LetE.now ?_ | refine AtD.now ?_ | refine LetC.now ?_ | refine g_some ?_ | refine g_yk ?_ | refine g_nk ?_ | refine g_y ?_ | refine g_f ?_ | refine AtA.mk' ?_ | refine Spl.pd (fun h => ?_) (fun h => ?_) | refine Spl.peq (fun h => ?_) (fun h => ?_) | refine Spl.pne (fun h => ?_) (fun h => ?_) | refine Spl.seq (fun h => ?_) (fun h => ?_) | refine Spl.sne (fun h => ?_) (fun h => ?_) | refine Spl.nt ?_ | refine Spl.mk (fun h => ?_) (fun h => ?_))))
        refine ⟨k + 1, ⟨hk24, hno⟩, by first | omega | (dsimp only; omega), (Wk.enF (And.intro rfl (And.intro rfl (And.intro rfl (And.intro (it_eq (by omega)) trivial)))) (by (repeat (first | exact trivial | refine And.intro (obw_eq rfl (by with_unfolding_all exact rfl)) ?_ | refine And.intro (obw_fr (by with_unfolding_all exact rfl) (by (repeat (first | exact trivial | refine And.intro (by with_unfolding_all exact rfl) ?_)))) ?_))) rfl)⟩
      · have hP : P (i + 1) k = true := by simpa using hP
        have hbad : ¬ (prbK P 120 ++ prbB O 24 = []) := fun q => prbK_ne hi5 hk24 hP (List.append_eq_nil_iff.1 q).1
        rw [hP] at hek
        (repeat' ((conv => whnf); first | (with_reducible first | refine Spl.tt ?_ | refine Spl.ff ?_) | ((with_reducible refine callE_id ?_); (refine CallE.con ⟨_, hek, ?_⟩)) | with_reducible refine YieldI.intro ti_ok (by with_unfolding_all exact rfl) (by with_unfolding_all exact rfl) (by with_unfolding_all exact rfl) ?_ | (with_reducible first | refine draw_auto ti_ok mixed (by decide +kernel) ?_ | refine g_i64 ?_ | refine g_u64 ?_ | refine g_u8 ?_ | refine g_iq ?_ | refine g_uq ?_ | refine g_rem ?_ | refine LetN.mk ?_ | refine g_hm ?_ | refine g_hb ?_ | refine g_lit ?_ | refine g_nm8 (fun x hx hu => ?_) | refine g_n8 (fun x hx hu => ?_) | refine g_b8 (fun x hx hu => ?_) | refine g_nm (fun x hx => ?_) | refine g_im (fun x hx => ?_) | refine g_n (fun x hx => ?_) | refine g_b (fun x hx => ?_) | refine g_and ?_ | refine g_c ?_ | refine Both.mk ?_ ?_ | refine NilS.ts ?_ | refine LetE.now ?_ | refine AtD.now ?_ | refine LetC.now ?_ | refine g_some ?_ | refine g_yk ?_ | refine g_nk ?_ | refine g_y ?_ | refine g_f ?_ | refine AtA.mk' ?_ | refine Spl.pd (fun h => ?_) (fun h => ?_) | refine Spl.peq (fun h => ?_) (fun h => ?_) | refine Spl.pne (fun h => ?_) (fun h => ?_) | refine Spl.seq (fun h => ?_) (fun h => ?_) | refine Spl.sne (fun h => ?_) (fun h => ?_) | refine Spl.nt ?_ | refine Spl.mk (fun h => ?_) (fun h => ?_))))
        exact bl_ff hbad
    · have hke : k = 24 := by omega
      (repeat' ((conv => whnf); first | (with_reducible first | refine Spl.tt ?_ | refine Spl.ff ?_) | (with_reducible first | refine draw_auto ti_ok mixed (by decide +kernel) ?_ | refine g_i64 ?_ | refine g_u64 ?_ | refine g_u8 ?_ | refine g_iq ?_ | refine g_uq ?_ | refine g_rem ?_ | refine LetN.mk ?_ | refine g_hm ?_ | refine g_hb ?_ | refine g_lit ?_ | refine g_nm8 (fun x hx hu => ?_) | refine g_n8 (fun x hx hu => ?_) | refine g_b8 (fun x hx hu => ?_) | refine g_nm (fun x hx => ?_) | refine g_im (fun x hx => ?_) | refine g_n (fun x hx => ?_) | refine g_b (fun x hx => ?_) | refine g_and ?_ | refine g_c ?_ | refine Both.mk ?_ ?_ | refine NilS.ts ?_ | refine LetE.now ?_ | refine AtD.now ?_ | refine LetC.now ?_ | refine g_some ?_ | refine g_yk ?_ | refine g_nk ?_ | refine g_y ?_ | refine g_f ?_ | refine AtA.mk' ?_ | refine Spl.pd (fun h => ?_) (fun h => ?_) | refine Spl.peq (fun h => ?_) (fun h => ?_) | refine Spl.pne (fun h => ?_) (fun h => ?_) | refine Spl.seq (fun h => ?_) (fun h => ?_) | refine Spl.sne (fun h => ?_) (fun h => ?_) | refine Spl.nt ?_ | refine Spl.mk (fun h => ?_) (fun h => ?_))))
      refine ⟨i + 1, ⟨hi5, by rw [← hn]; congr 1; omega⟩, by first | omega | (dsimp only; omega), (Wk.enF (And.intro rfl (And.intro rfl (And.intro (it_eq (by omega)) trivial))) (by (repeat (first | exact trivial | refine And.intro (obw_eq rfl (by with_unfolding_all exact rfl)) ?_ | refine And.intro (obw_fr (by with_unfolding_all exact rfl) (by (repeat (first | exact trivial | refine And.intro (by with_unfolding_all exact rfl) ?_)))) ?_))) rfl)⟩
  · have hie : i = 5 := by omega
    rw [hie] at hn0
    have hn0 : prbK P 120 = [] := hn0
    (repeat' ((conv => whnf); first | (with_reducible first | refine Spl.tt ?_ | refine Spl.ff ?_) | (with_reducible first | refine draw_auto ti_ok mixed (by decide +kernel) ?_ | refine g_i64 ?_ | refine g_u64 ?_ | refine g_u8 ?_ | refine g_iq ?_ | refine g_uq ?_ | refine g_rem ?_ | refine LetN.mk ?_ | refine g_hm ?_ | refine g_hb ?_ | refine g_lit ?_ | refine g_nm8 (fun x hx hu => ?_) | refine g_n8 (fun x hx hu => ?_) | refine g_b8 (fun x hx hu => ?_) | refine g_nm (fun x hx => ?_) | refine g_im (fun x hx => ?_) | refine g_n (fun x hx => ?_) | refine g_b (fun x hx => ?_) | refine g_and ?_ | refine g_c ?_ | refine Both.mk ?_ ?_ | refine NilS.ts ?_ | refine LetE.now ?_ | refine AtD.now ?_ | refine LetC.now ?_ | refine g_some ?_ | refine g_yk ?_ | refine g_nk ?_ | refine g_y ?_ | refine g_f ?_ | refine AtA.mk' ?_ | refine Spl.pd (fun h => ?_) (fun h => ?_) | refine Spl.peq (fun h => ?_) (fun h => ?_) | refine Spl.pne (fun h => ?_) (fun h => ?_) | refine Spl.seq (fun h => ?_) (fun h => ?_) | refine Spl.sne (fun h => ?_) (fun h => ?_) | refine Spl.nt ?_ | refine Spl.mk (fun h => ?_) (fun h => ?_))))
    conv => whnf
    refine loop_ruleW ti_ok (fun q : Nat => q ≤ 24 ∧ prbB O q = []) (fun q => clA Tryz.f9 d I E R (c1 5 q)) (fun q => 24 - q) 0 ⟨Nat.zero_le _, rfl⟩ (Wk.enF (And.intro rfl (And.intro rfl (And.intro rfl trivial))) (by (repeat (first | exact trivial | refine And.intro (obw_eq rfl (by with_unfolding_all exact rfl)) ?_ | refine And.intro (obw_fr (by with_unfolding_all exact rfl) (by (repeat (first | exact trivial | refine And.intro (by with_unfolding_all exact rfl) ?_)))) ?_))) rfl) ?_
    intro q ⟨hq, hn⟩
    by_cases hq24 : q < 24
    · have how := hown ((q + 1 : Nat) : Int)
      have hle := ownK_le (fun i => I.getD i ino0) (fun i => decide (takP (rdS d) (i : Nat))) ((q + 1 : Nat) : Int) 16
      have hOq := hO (q + 1)
      by_cases ho : 1 < ownK (fun i => I.getD i ino0) (fun i => decide (takP (rdS d) (i : Nat))) ((q + 1 : Nat) : Int) 16
      · have hbad : ¬ (prbK P 120 ++ prbB O 24 = []) := fun z => prbB_ne hq24 (by rw [← hOq]; exact ho) (List.append_eq_nil_iff.1 z).2
        (repeat' ((conv => whnf); first | (with_reducible first | refine Spl.tt ?_ | refine Spl.ff ?_) | ((with_reducible refine callE_id ?_); (refine CallE.con ⟨_, how, ?_⟩)) | with_reducible refine YieldI.intro ti_ok (by with_unfolding_all exact rfl) (by with_unfolding_all exact rfl) (by with_unfolding_all exact rfl) ?_ | (with_reducible first | refine draw_auto ti_ok mixed (by decide +kernel) ?_ | refine g_i64 ?_ | refine g_u64 ?_ | refine g_u8 ?_ | refine g_iq ?_ | refine g_uq ?_ | refine g_rem ?_ | refine LetN.mk ?_ | refine g_hm ?_ | refine g_hb ?_ | refine g_lit ?_ | refine g_nm8 (fun x hx hu => ?_) | refine g_n8 (fun x hx hu => ?_) | refine g_b8 (fun x hx hu => ?_) | refine g_nm (fun x hx => ?_) | refine g_im (fun x hx => ?_) | refine g_n (fun x hx => ?_) | refine g_b (fun x hx => ?_) | refine g_and ?_ | refine g_c ?_ | refine Both.mk ?_ ?_ | refine NilS.ts ?_ | refine LetE.now ?_ | refine AtD.now ?_ | refine LetC.now ?_ | refine g_some ?_ | refine g_yk ?_ | refine g_nk ?_ | refine g_y ?_ | refine g_f ?_ | refine AtA.mk' ?_ | refine Spl.pd (fun h => ?_) (fun h => ?_) | refine Spl.peq (fun h => ?_) (fun h => ?_) | refine Spl.pne (fun h => ?_) (fun h => ?_) | refine Spl.seq (fun h => ?_) (fun h => ?_) | refine Spl.sne (fun h => ?_) (fun h => ?_) | refine Spl.nt ?_ | refine Spl.mk (fun h => ?_) (fun h => ?_))))
        exact bl_ff hbad
      · have hno := (prbB_no (own := O) (k := q) (by rw [← hOq]; exact ho)).trans hn
        (repeat' ((conv => whnf); first | (with_reducible first | refine Spl.tt ?_ | refine Spl.ff ?_) | ((with_reducible refine callE_id ?_); (refine CallE.con ⟨_, how, ?_⟩)) | (with_reducible first | refine draw_auto ti_ok mixed (by decide +kernel) ?_ | refine g_i64 ?_ | refine g_u64 ?_ | refine g_u8 ?_ | refine g_iq ?_ | refine g_uq ?_ | refine g_rem ?_ | refine LetN.mk ?_ | refine g_hm ?_ | refine g_hb ?_ | refine g_lit ?_ | refine g_nm8 (fun x hx hu => ?_) | refine g_n8 (fun x hx hu => ?_) | refine g_b8 (fun x hx hu => ?_) | refine g_nm (fun x hx => ?_) | refine g_im (fun x hx => ?_) | refine g_n (fun x hx => ?_) | refine g_b (fun x hx => ?_) | refine g_and ?_ | refine g_c ?_ | refine Both.mk ?_ ?_ | refine NilS.ts ?_ | refine LetE.now ?_ | refine AtD.now ?_ | refine LetC.now ?_ | refine g_some ?_ | refine g_yk ?_ | refine g_nk ?_ | refine g_y ?_ | refine g_f ?_ | refine AtA.mk' ?_ | refine Spl.pd (fun h => ?_) (fun h => ?_) | refine Spl.peq (fun h => ?_) (fun h => ?_) | refine Spl.pne (fun h => ?_) (fun h => ?_) | refine Spl.seq (fun h => ?_) (fun h => ?_) | refine Spl.sne (fun h => ?_) (fun h => ?_) | refine Spl.nt ?_ | refine Spl.mk (fun h => ?_) (fun h => ?_))))
        refine ⟨q + 1, ⟨hq24, hno⟩, by first | omega | (dsimp only; omega), (Wk.enF (And.intro rfl (And.intro rfl (And.intro (it_eq (by omega)) trivial))) (by (repeat (first | exact trivial | refine And.intro (obw_eq rfl (by with_unfolding_all exact rfl)) ?_ | refine And.intro (obw_fr (by with_unfolding_all exact rfl) (by (repeat (first | exact trivial | refine And.intro (by with_unfolding_all exact rfl) ?_)))) ?_))) rfl)⟩
    · have hqe : q = 24 := by omega
      rw [hqe] at hn
      (repeat' ((conv => whnf); first | (with_reducible first | refine Spl.tt ?_ | refine Spl.ff ?_) | (with_reducible first | refine draw_auto ti_ok mixed (by decide +kernel) ?_ | refine g_i64 ?_ | refine g_u64 ?_ | refine g_u8 ?_ | refine g_iq ?_ | refine g_uq ?_ | refine g_rem ?_ | refine LetN.mk ?_ | refine g_hm ?_ | refine g_hb ?_ | refine g_lit ?_ | refine g_nm8 (fun x hx hu => ?_) | refine g_n8 (fun x hx hu => ?_) | refine g_b8 (fun x hx hu => ?_) | refine g_nm (fun x hx => ?_) | refine g_im (fun x hx => ?_) | refine g_n (fun x hx => ?_) | refine g_b (fun x hx => ?_) | refine g_and ?_ | refine g_c ?_ | refine Both.mk ?_ ?_ | refine NilS.ts ?_ | refine LetE.now ?_ | refine AtD.now ?_ | refine LetC.now ?_ | refine g_some ?_ | refine g_yk ?_ | refine g_nk ?_ | refine g_y ?_ | refine g_f ?_ | refine AtA.mk' ?_ | refine Spl.pd (fun h => ?_) (fun h => ?_) | refine Spl.peq (fun h => ?_) (fun h => ?_) | refine Spl.pne (fun h => ?_) (fun h => ?_) | refine Spl.seq (fun h => ?_) (fun h => ?_) | refine Spl.sne (fun h => ?_) (fun h => ?_) | refine Spl.nt ?_ | refine Spl.mk (fun h => ?_) (fun h => ?_))))
      exact bl_tt (by rw [hn0, hn]; rfl)
end Go.Proofs.YtenomegafkileaaGreatDoor

/- What must come; the law, whole. Conditions: none. -/
namespace Go.Proofs.YtenomegafkileaaGreatDoor
open Go.Sy
set_option maxRecDepth 100000
set_option linter.all false
theorem prbP_congr {od od' : Nat → Bool} {I : List Ino} {E : List Ent} {R : List Bool} {k : Nat} (h : od k = od' k) (kind : Nat) : prbP od I E R kind k = prbP od' I E R kind k := by
  unfold prbP
  rw [h]
theorem probs_congr {od od' : Nat → Bool} {I : List Ino} {E : List Ent} {own own' : Nat → Nat} (h1 : ∀ k, k < 24 → od k = od' k) (h2 : own = own') : probs od I E own = probs od' I E own' := by
  subst h2
  unfold probs prbK
  congr 2
  refine List.filter_congr fun j _ => ?_
  exact prbP_congr (h1 _ (Nat.mod_lt _ (by decide))) _
theorem xI_congr {f g : Int → List UInt8} (h : ∀ n : Int, 0 ≤ n → f n = g n) (n : Nat) : xI f n = xI g n := by
  unfold xI
  refine List.map_congr_left fun i _ => ?_
  rw [inoAt_eq h]
theorem xE_congr {f g : Int → List UInt8} (h : ∀ n : Int, 0 ≤ n → f n = g n) (n : Nat) : xE f n = xE g n := by
  unfold xE
  refine List.map_congr_left fun i _ => ?_
  rw [entAt_eq h]
theorem takP_congr {f g : Int → List UInt8} (h : ∀ n : Int, 0 ≤ n → f n = g n) (n : Int) : takP f n ↔ takP g n := by
  have e : ∀ j : Nat, entAt f j = entAt g j := fun j => entAt_eq h j
  unfold takP
  simp only [e]
theorem own_congr {d : Option Dk} {m : List (List UInt8)} (h : ∀ n : Int, 0 ≤ n → rdS d n = imS m n) : dOwn d = fun b => refO m (b : Nat) 16 := by
  funext b
  unfold dOwn refO ownK
  congr 1
  refine List.filter_congr fun i hi => ?_
  have hi16 : i < 16 := List.mem_range.1 hi
  have e1 : (xI (rdS d) 16).getD i ino0 = inoAt (imS m) (i : Nat) := by
    have h1 : i < (xI (rdS d) 16).length := by rw [xI_len]; exact hi16
    rw [List.getD_eq_getElem?_getD, List.getElem?_eq_getElem h1, Option.getD_some, xI_get, if_pos hi16, inoAt_eq h]
  simp only [e1, takP_congr h]
theorem od_congr {d : Option Dk} {m : List (List UInt8)} (h : ∀ n : Int, 0 ≤ n → rdS d n = imS m n) (hp : ∀ n : Int, 0 ≤ n → (hasP d n ↔ n < m.length)) (k : Nat) : dod d k = rod m k := by
  unfold dod rod
  rw [Bool.eq_iff_iff, decide_eq_true_eq, decide_eq_true_eq]
  unfold oddP
  rw [hp _ (by omega), h _ (by omega)]
  constructor
  · exact fun q => ⟨by omega, q.2⟩
  · exact fun q => ⟨by omega, q.2⟩
theorem has_im (m : List (List UInt8)) (ws : List Wr) (n : Int) (h0 : 0 ≤ n) : hasP (dskOf m ws) n ↔ n < (withF m ws).length := by
  unfold dskOf withF
  by_cases hc : 1 ≤ m.length ∧ m.length ≤ 65
  · rw [if_pos hc, if_pos hc, putWs_len]
    show 0 ≤ n ∧ n < m.length ↔ _
    omega
  · rw [if_neg hc, if_neg hc]
    show False ↔ n < ((0 : Nat) : Int)
    exact ⟨fun h => h.elim, fun h => by omega⟩
set_option maxHeartbeats 4000000 in
theorem ints_ok (l : List Nat) (hl : l.length ≤ 1000) : FnC Tryz.prog 10 [.d (.fs 1 (vN l)), .d (.fs 1 (vN l))] (.d (.bl true)) := by
  have hv := vN_len l
  refine FnC.intro ti_ok Tryz.func10 rfl Tryz.ntmps10 Tryz.call10 rfl (Nat.le_of_ble_eq_true rfl) rfl ?_
  (repeat' ((conv => whnf); first | (with_reducible first | refine Spl.tt ?_ | refine Spl.ff ?_) | (with_reducible first | refine draw_auto ti_ok mixed (by decide +kernel) ?_ | refine g_i64 ?_ | refine g_u64 ?_ | refine g_u8 ?_ | refine g_iq ?_ | refine g_uq ?_ | refine g_rem ?_ | refine LetN.mk ?_ | refine g_hm ?_ | refine g_hb ?_ | refine g_lit ?_ | refine g_nm8 (fun x hx hu => ?_) | refine g_n8 (fun x hx hu => ?_) | refine g_b8 (fun x hx hu => ?_) | refine g_nm (fun x hx => ?_) | refine g_im (fun x hx => ?_) | refine g_n (fun x hx => ?_) | refine g_b (fun x hx => ?_) | refine g_and ?_ | refine g_c ?_ | refine Both.mk ?_ ?_ | refine NilS.ts ?_ | refine LetE.now ?_ | refine AtD.now ?_ | refine LetC.now ?_ | refine g_some ?_ | refine g_yk ?_ | refine g_nk ?_ | refine g_y ?_ | refine g_f ?_ | refine AtA.mk' ?_ | refine Spl.pd (fun h => ?_) (fun h => ?_) | refine Spl.peq (fun h => ?_) (fun h => ?_) | refine Spl.pne (fun h => ?_) (fun h => ?_) | refine Spl.seq (fun h => ?_) (fun h => ?_) | refine Spl.sne (fun h => ?_) (fun h => ?_) | refine Spl.nt ?_ | refine Spl.mk (fun h => ?_) (fun h => ?_))))
  conv => whnf
  refine loop_rule ti_ok (fun k : Nat => k ≤ l.length) (fun k => ⟨[(0, .d (.fs 1 (vN l))), (1, .d (.fs 1 (vN l))), (5, .d (.it .i64 (k : Nat)))], [], 0⟩) (fun k => l.length - k) 0 (Nat.zero_le _) ⟨And.intro rfl (And.intro rfl (And.intro rfl trivial)), trivial, rfl⟩ ?_
  intro k hk
  by_cases hkl : k < l.length
  · obtain ⟨x, hx⟩ := lt_get hkl
    unfold vN at hv ⊢
    (repeat' ((conv => whnf); first | (with_reducible first | refine Spl.tt ?_ | refine Spl.ff ?_) | (with_reducible first | refine draw_auto ti_ok mixed (by decide +kernel) ?_ | refine g_i64 ?_ | refine g_u64 ?_ | refine g_u8 ?_ | refine g_iq ?_ | refine g_uq ?_ | refine g_rem ?_ | refine LetN.mk ?_ | refine g_hm ?_ | refine g_hb ?_ | refine g_lit ?_ | refine g_nm8 (fun x hx hu => ?_) | refine g_n8 (fun x hx hu => ?_) | refine g_b8 (fun x hx hu => ?_) | refine g_nm (fun x hx => ?_) | refine g_im (fun x hx => ?_) | refine g_n (fun x hx => ?_) | refine g_b (fun x hx => ?_) | refine g_and ?_ | refine g_c ?_ | refine Both.mk ?_ ?_ | refine NilS.ts ?_ | refine LetE.now ?_ | refine AtD.now ?_ | refine LetC.now ?_ | refine g_some ?_ | refine g_yk ?_ | refine g_nk ?_ | refine g_y ?_ | refine g_f ?_ | refine AtA.mk' ?_ | refine Spl.pd (fun h => ?_) (fun h => ?_) | refine Spl.peq (fun h => ?_) (fun h => ?_) | refine Spl.pne (fun h => ?_) (fun h => ?_) | refine Spl.seq (fun h => ?_) (fun h => ?_) | refine Spl.sne (fun h => ?_) (fun h => ?_) | refine Spl.nt ?_ | refine Spl.mk (fun h => ?_) (fun h => ?_))))
    refine again (k + 1) hkl (by first | omega | (dsimp only; omega)) (And.intro rfl (And.intro rfl (And.intro (it_eq (by omega)) trivial))) trivial rfl
  · (repeat' ((conv => whnf); first | (with_reducible first | refine Spl.tt ?_ | refine Spl.ff ?_) | (with_reducible first | refine draw_auto ti_ok mixed (by decide +kernel) ?_ | refine g_i64 ?_ | refine g_u64 ?_ | refine g_u8 ?_ | refine g_iq ?_ | refine g_uq ?_ | refine g_rem ?_ | refine LetN.mk ?_ | refine g_hm ?_ | refine g_hb ?_ | refine g_lit ?_ | refine g_nm8 (fun x hx hu => ?_) | refine g_n8 (fun x hx hu => ?_) | refine g_b8 (fun x hx hu => ?_) | refine g_nm (fun x hx => ?_) | refine g_im (fun x hx => ?_) | refine g_n (fun x hx => ?_) | refine g_b (fun x hx => ?_) | refine g_and ?_ | refine g_c ?_ | refine Both.mk ?_ ?_ | refine NilS.ts ?_ | refine LetE.now ?_ | refine AtD.now ?_ | refine LetC.now ?_ | refine g_some ?_ | refine g_yk ?_ | refine g_nk ?_ | refine g_y ?_ | refine g_f ?_ | refine AtA.mk' ?_ | refine Spl.pd (fun h => ?_) (fun h => ?_) | refine Spl.peq (fun h => ?_) (fun h => ?_) | refine Spl.pne (fun h => ?_) (fun h => ?_) | refine Spl.seq (fun h => ?_) (fun h => ?_) | refine Spl.sne (fun h => ?_) (fun h => ?_) | refine Spl.nt ?_ | refine Spl.mk (fun h => ?_) (fun h => ?_))))
    rfl
def kW13 : List Wr := [⟨19, k1S, 0, 0, 0⟩]
theorem kw13_ok : WsOK kW13 := by
  intro w hw
  simp only [kW13, List.mem_cons, List.not_mem_nil, or_false] at hw
  rcases hw with rfl; rfl
def kD13 : Option Dk := dskOf emptyM kW13
def kE13 : Option Dk := dskOf emptyM []
theorem kf1 : probs (dod kD13) (xI (rdS kD13) 16) (xE (rdS kD13) 24) (dOwn kD13) = [(2, 2)] := by decide +kernel
theorem kf2 : nmR (reachR (kdI (xI (rdS kD13) 16)) (xE (rdS kD13) 24)) 16 = [0] := by decide +kernel
theorem kf3 : probs (dod kE13) (xI (rdS kE13) 16) (xE (rdS kE13) 24) (dOwn kE13) = [] := by decide +kernel
theorem fnC_nil {f : Nat} {a : AV} {sz : Nat} {r : AV} (h : FnC Tryz.prog f [a, .d (.fs sz [])] r) : FnC Tryz.prog f [a, .d (.fs 0 [])] r := by
  refine ⟨h.isP, fun g w vs h1 h2 h3 => h.run g w vs h1 h2 fun j hj => ?_⟩
  match j, hj with
  | 0, _ => exact h3 0 (by simp)
  | 1, _ =>
    have := h3 1 (by simp)
    generalize vs.getD 1 undef = v at this
    cases this with | d _ _ h => ?_
    cases h with
    | fs0 => exact .d _ _ (.fs0 _ _ _)
    | fs _ _ _ _ _ _ _ hl => 
      subst hl
      exact .d _ _ (.fs0 _ _ _)
theorem eqP2 (x : Int × Int) : eqDs [.it .i64 x.1, .it .i64 x.2] [.it .i64 x.1, .it .i64 x.2] = true := by simp [eqDs, eqD]
def tlS (L : List (Int × Int)) (k : Nat) : S := ⟨[(7, .d (.fs 2 (L.map encP))), (8, .d (.fs 2 (L.map encP))), (9, .d (.it .i64 (k : Nat)))], [], 0⟩
theorem neqP {b : Bool} (h : b = true) : (!b) = false := by rw [h]; rfl
set_option maxHeartbeats 8000000 in
theorem knows13_ok : FnC Tryz.prog 4 [] (.d (.bl true)) := by
  have ke := empty_ok
  have kd : FnC Tryz.prog 5 [.d (encM emptyM), .d (.fs 36 (kW13.map encW))] (.d (encD kD13)) := disk_ok emptyM em_ok kW13 kw13_ok (by decide) (by decide)
  have ke2 : FnC Tryz.prog 5 [.d (encM emptyM), .d (.fs 0 [])] (.d (encD kE13)) := fnC_nil (disk_ok emptyM em_ok [] (fun w hw => by cases hw) (by decide) (by decide))
  have hD : DkOK kD13 := dsk_OK em_ok kw13_ok (by decide)
  have hE : DkOK kE13 := dsk_OK em_ok (fun w hw => by cases hw) (by decide)
  have k1 := check_ok kD13 hD
  have k2 := clean_ok kD13 hD
  have k3 := clean_ok kE13 hE
  have k4 := chkReached_ok kD13 hD
  have ki := ints_ok [0] (by decide)
  have k1 : FnC Tryz.prog 7 [.d (encD kD13)] (.d (.fs 2 ((probs (dod kD13) (xI (rdS kD13) 16) (xE (rdS kD13) 24) (dOwn kD13)).map encP))) := k1
  rw [kf1] at k1 k2
  rw [kf3] at k3
  rw [kf2] at k4
  have k2 : FnC Tryz.prog 9 [.d (encD kD13)] (.d (.bl false)) := k2
  have k3 : FnC Tryz.prog 9 [.d (encD kE13)] (.d (.bl true)) := k3
  generalize kD13 = D0 at *
  generalize kE13 = D1 at *
  refine FnC.intro ti_ok Tryz.func4 rfl Tryz.ntmps4 Tryz.call4 rfl (Nat.le_of_ble_eq_true rfl) rfl ?_
  (repeat' ((conv => whnf); first | (with_reducible first | refine Spl.tt ?_ | refine Spl.ff ?_) | ((with_reducible refine callE_id ?_); first | (refine CallE.con ⟨_, ke, ?_⟩) | (refine CallE.con ⟨_, kd, ?_⟩) | (refine CallE.con ⟨_, k1, ?_⟩) | (refine CallE.con ⟨_, k2, ?_⟩) | (refine CallE.con ⟨_, k3, ?_⟩) | (refine CallE.con ⟨_, ke2, ?_⟩) | (refine CallE.con ⟨_, k4, ?_⟩) | (refine CallE.con ⟨_, ki, ?_⟩)) | (with_reducible first | refine draw_auto ti_ok mixed (by decide +kernel) ?_ | refine g_i64 ?_ | refine g_u64 ?_ | refine g_u8 ?_ | refine g_iq ?_ | refine g_uq ?_ | refine g_rem ?_ | refine LetN.mk ?_ | refine g_hm ?_ | refine g_hb ?_ | refine g_lit ?_ | refine g_nm8 (fun x hx hu => ?_) | refine g_n8 (fun x hx hu => ?_) | refine g_b8 (fun x hx hu => ?_) | refine g_nm (fun x hx => ?_) | refine g_im (fun x hx => ?_) | refine g_n (fun x hx => ?_) | refine g_b (fun x hx => ?_) | refine g_and ?_ | refine g_c ?_ | refine Both.mk ?_ ?_ | refine NilS.ts ?_ | refine LetE.now ?_ | refine AtD.now ?_ | refine LetC.now ?_ | refine g_some ?_ | refine g_yk ?_ | refine g_nk ?_ | refine g_y ?_ | refine g_f ?_ | refine AtA.mk' ?_ | refine Spl.pd (fun h => ?_) (fun h => ?_) | refine Spl.peq (fun h => ?_) (fun h => ?_) | refine Spl.pne (fun h => ?_) (fun h => ?_) | refine Spl.seq (fun h => ?_) (fun h => ?_) | refine Spl.sne (fun h => ?_) (fun h => ?_) | refine Spl.nt ?_ | refine Spl.mk (fun h => ?_) (fun h => ?_))))
  rfl
set_option maxHeartbeats 8000000 in
theorem law13_ok (m : List (List UInt8)) (hm : ImOK m) (ws : List Wr) (hw : WsOK ws) : FnC Tryz.prog 3 [.d (encM m), .d (.fs 36 (ws.map encW))] (.d (.bl true)) := by
  have kk := knows13_ok
  have hml : (m.map encS).length = m.length := List.length_map ..
  have hwl : (ws.map encW).length = ws.length := List.length_map ..
  by_cases hs : m.length ≤ 200 ∧ ws.length ≤ 40
  · have kd := disk_ok m hm ws hw (by omega) (by omega)
    have kw := with_ok m hm ws hw (by omega) (by omega)
    have hD := dsk_OK hm hw (by omega)
    have hI := with_OK hm hw
    have hr := fun n h => rd_im m ws n h
    have hp := fun n h => has_im m ws n h
    generalize dskOf m ws = D0 at kd hD hr hp
    generalize withF m ws = M0 at kw hI hr hp
    have a1 : FnC Tryz.prog 7 [.d (encD D0)] (.d (.fs 2 ((probs (dod D0) (xI (rdS D0) 16) (xE (rdS D0) 24) (dOwn D0)).map encP))) := check_ok D0 hD
    have b1 := refChk_ok M0 hI
    have a2 := clean_ok D0 hD
    have a3 := chkReached_ok D0 hD
    have b3 := refNum_ok M0 hI
    rw [xI_congr hr, xE_congr hr, probs_congr (fun k _ => od_congr hr hp k) (own_congr hr)] at a1 a2
    rw [xI_congr hr, xE_congr hr] at a3
    have hpl := probs_len (rod M0) (xI (imS M0) 16) (xE (imS M0) 24) (fun b => refO M0 (b : Nat) 16)
    have hnl := nmR_len (reachR (kdI (xI (imS M0) 16)) (xE (imS M0) 24)) 16
    generalize probs (rod M0) (xI (imS M0) 16) (xE (imS M0) 24) (fun b => refO M0 (b : Nat) 16) = L at *
    generalize nmR (reachR (kdI (xI (imS M0) 16)) (xE (imS M0) 24)) 16 = V at *
    have ki := ints_ok V (by omega)
    have hLl : (L.map encP).length = L.length := List.length_map ..
    by_cases hL0 : L = []
    all_goals first | rw [decide_eq_true hL0] at a2 | rw [decide_eq_false hL0] at a2
    all_goals (have hL1 := hL0; rw [← List.length_eq_zero_iff] at hL1)
    all_goals first | (have hc0 : (((L.map encP).length : Int) == 0) = true := (by rw [beq_iff_eq]; omega)) | (have hc0 : (((L.map encP).length : Int) == 0) = false := (by rw [beq_eq_false_iff_ne]; omega))
    all_goals refine FnC.intro ti_ok Tryz.func3 rfl Tryz.ntmps3 Tryz.call3 rfl (Nat.le_of_ble_eq_true rfl) rfl ?_
    all_goals (repeat' ((conv => whnf); first | (with_reducible first | refine Spl.tt ?_ | refine Spl.ff ?_) | ((with_reducible refine callE_id ?_); first | (refine CallE.con ⟨_, kk, ?_⟩) | (refine CallE.con ⟨_, kd, ?_⟩) | (refine CallE.con ⟨_, kw, ?_⟩) | (refine CallE.con ⟨_, a1, ?_⟩) | (refine CallE.con ⟨_, b1, ?_⟩) | (refine CallE.con ⟨_, a2, ?_⟩) | (refine CallE.con ⟨_, a3, ?_⟩) | (refine CallE.con ⟨_, b3, ?_⟩) | (refine CallE.con ⟨_, ki, ?_⟩)) | ((with_reducible refine spl_id ?_); refine Spl.no (by rw [hc0]; rfl) ?_) | (with_reducible first | refine draw_auto ti_ok mixed (by decide +kernel) ?_ | refine g_i64 ?_ | refine g_u64 ?_ | refine g_u8 ?_ | refine g_iq ?_ | refine g_uq ?_ | refine g_rem ?_ | refine LetN.mk ?_ | refine g_hm ?_ | refine g_hb ?_ | refine g_lit ?_ | refine g_nm8 (fun x hx hu => ?_) | refine g_n8 (fun x hx hu => ?_) | refine g_b8 (fun x hx hu => ?_) | refine g_nm (fun x hx => ?_) | refine g_im (fun x hx => ?_) | refine g_n (fun x hx => ?_) | refine g_b (fun x hx => ?_) | refine g_and ?_ | refine g_c ?_ | refine Both.mk ?_ ?_ | refine NilS.ts ?_ | refine LetE.now ?_ | refine AtD.now ?_ | refine LetC.now ?_ | refine g_some ?_ | refine g_yk ?_ | refine g_nk ?_ | refine g_y ?_ | refine g_f ?_ | refine AtA.mk' ?_ | refine Spl.pd (fun h => ?_) (fun h => ?_) | refine Spl.peq (fun h => ?_) (fun h => ?_) | refine Spl.pne (fun h => ?_) (fun h => ?_) | refine Spl.seq (fun h => ?_) (fun h => ?_) | refine Spl.sne (fun h => ?_) (fun h => ?_) | refine Spl.nt ?_ | refine Spl.mk (fun h => ?_) (fun h => ?_))))
    all_goals
      conv => whnf
      refine loop_rule ti_ok (fun k : Nat => k ≤ L.length) (tlS L) (fun k => L.length - k) 0 (Nat.zero_le _) ⟨And.intro rfl (And.intro rfl (And.intro rfl trivial)), trivial, rfl⟩ ?_
      intro k hk
      by_cases hkl : k < L.length
      · obtain ⟨x, hx⟩ := lt_get hkl
        have he := eqP2 x
        (repeat' ((conv => whnf); first | (with_reducible first | refine Spl.tt ?_ | refine Spl.ff ?_) | ((with_reducible refine spl_id ?_); refine Spl.no (neqP he) ?_) | (with_reducible first | refine draw_auto ti_ok mixed (by decide +kernel) ?_ | refine g_i64 ?_ | refine g_u64 ?_ | refine g_u8 ?_ | refine g_iq ?_ | refine g_uq ?_ | refine g_rem ?_ | refine LetN.mk ?_ | refine g_hm ?_ | refine g_hb ?_ | refine g_lit ?_ | refine g_nm8 (fun x hx hu => ?_) | refine g_n8 (fun x hx hu => ?_) | refine g_b8 (fun x hx hu => ?_) | refine g_nm (fun x hx => ?_) | refine g_im (fun x hx => ?_) | refine g_n (fun x hx => ?_) | refine g_b (fun x hx => ?_) | refine g_and ?_ | refine g_c ?_ | refine Both.mk ?_ ?_ | refine NilS.ts ?_ | refine LetE.now ?_ | refine AtD.now ?_ | refine LetC.now ?_ | refine g_some ?_ | refine g_yk ?_ | refine g_nk ?_ | refine g_y ?_ | refine g_f ?_ | refine AtA.mk' ?_ | refine Spl.pd (fun h => ?_) (fun h => ?_) | refine Spl.peq (fun h => ?_) (fun h => ?_) | refine Spl.pne (fun h => ?_) (fun h => ?_) | refine Spl.seq (fun h => ?_) (fun h => ?_) | refine Spl.sne (fun h => ?_) (fun h => ?_) | refine Spl.nt ?_ | refine Spl.mk (fun h => ?_) (fun h => ?_))))
        refine again (k + 1) hkl (by first | omega | (dsimp only; omega)) (And.intro rfl (And.intro rfl (And.intro (it_eq (by omega)) trivial))) trivial rfl
      · (repeat' ((conv => whnf); first | (with_reducible first | refine Spl.tt ?_ | refine Spl.ff ?_) | (with_reducible first | refine draw_auto ti_ok mixed (by decide +kernel) ?_ | refine g_i64 ?_ | refine g_u64 ?_ | refine g_u8 ?_ | refine g_iq ?_ | refine g_uq ?_ | refine g_rem ?_ | refine LetN.mk ?_ | refine g_hm ?_ | refine g_hb ?_ | refine g_lit ?_ | refine g_nm8 (fun x hx hu => ?_) | refine g_n8 (fun x hx hu => ?_) | refine g_b8 (fun x hx hu => ?_) | refine g_nm (fun x hx => ?_) | refine g_im (fun x hx => ?_) | refine g_n (fun x hx => ?_) | refine g_b (fun x hx => ?_) | refine g_and ?_ | refine g_c ?_ | refine Both.mk ?_ ?_ | refine NilS.ts ?_ | refine LetE.now ?_ | refine AtD.now ?_ | refine LetC.now ?_ | refine g_some ?_ | refine g_yk ?_ | refine g_nk ?_ | refine g_y ?_ | refine g_f ?_ | refine AtA.mk' ?_ | refine Spl.pd (fun h => ?_) (fun h => ?_) | refine Spl.peq (fun h => ?_) (fun h => ?_) | refine Spl.pne (fun h => ?_) (fun h => ?_) | refine Spl.seq (fun h => ?_) (fun h => ?_) | refine Spl.sne (fun h => ?_) (fun h => ?_) | refine Spl.nt ?_ | refine Spl.mk (fun h => ?_) (fun h => ?_))))
        rfl
  · refine FnC.intro ti_ok Tryz.func3 rfl Tryz.ntmps3 Tryz.call3 rfl (Nat.le_of_ble_eq_true rfl) rfl ?_
    by_cases h1 : m.length ≤ 200
    all_goals (repeat' ((conv => whnf); first | (with_reducible first | refine Spl.tt ?_ | refine Spl.ff ?_) | ((with_reducible refine callE_id ?_); (refine CallE.con ⟨_, kk, ?_⟩)) | (with_reducible first | refine draw_auto ti_ok mixed (by decide +kernel) ?_ | refine g_i64 ?_ | refine g_u64 ?_ | refine g_u8 ?_ | refine g_iq ?_ | refine g_uq ?_ | refine g_rem ?_ | refine LetN.mk ?_ | refine g_hm ?_ | refine g_hb ?_ | refine g_lit ?_ | refine g_nm8 (fun x hx hu => ?_) | refine g_n8 (fun x hx hu => ?_) | refine g_b8 (fun x hx hu => ?_) | refine g_nm (fun x hx => ?_) | refine g_im (fun x hx => ?_) | refine g_n (fun x hx => ?_) | refine g_b (fun x hx => ?_) | refine g_and ?_ | refine g_c ?_ | refine Both.mk ?_ ?_ | refine NilS.ts ?_ | refine LetE.now ?_ | refine AtD.now ?_ | refine LetC.now ?_ | refine g_some ?_ | refine g_yk ?_ | refine g_nk ?_ | refine g_y ?_ | refine g_f ?_ | refine AtA.mk' ?_ | refine Spl.pd (fun h => ?_) (fun h => ?_) | refine Spl.peq (fun h => ?_) (fun h => ?_) | refine Spl.pne (fun h => ?_) (fun h => ?_) | refine Spl.seq (fun h => ?_) (fun h => ?_) | refine Spl.sne (fun h => ?_) (fun h => ?_) | refine Spl.nt ?_ | refine Spl.mk (fun h => ?_) (fun h => ?_))))
    all_goals first | rfl | (exfalso; omega)
end Go.Proofs.YtenomegafkileaaGreatDoor

/- The card. Conditions: none. -/
namespace Go.Proofs.YtenomegafkileaaGreatDoor
open Go.Sy Go.ChangeShapes Go.WideShapes Go.ChangeAt Go.RowKit
set_option maxRecDepth 100000
set_option linter.all false
def plainT : List Nat := [5, 43, 22, 3, 45, 47, 23]
theorem closed : closedB ti plainT = true := by decide +kernel
theorem shp_byte {n : Nat} {ds : List D} (h : Shp ti n 5 ds) : ∃ b : UInt8, ds = [.it .u8 b.toNat] := by
  match n, h with
  | n + 1, h =>
    obtain ⟨z, rfl, h1, h2⟩ := h
    have h1' : (0 : Int) ≤ z := h1
    have h2' : z ≤ 255 := h2
    refine ⟨by8e z, ?_⟩
    rw [by8e_ok (by omega)]
theorem shp_bytes {n : Nat} : ∀ {m : Nat} {ds : List D}, ShpN (Shp ti n 5) m ds → ∃ s : List UInt8, s.length = m ∧ ds = encS s
  | 0, ds, h => ⟨[], rfl, h⟩
  | m + 1, ds, h => by
    obtain ⟨a, b, rfl, h1, h2⟩ := h
    obtain ⟨c, rfl⟩ := shp_byte h1
    obtain ⟨s, hs, rfl⟩ := shp_bytes h2
    exact ⟨c :: s, by simp [hs], rfl⟩
theorem shp_sec {n : Nat} {ds : List D} (h : Shp ti n 43 ds) : ∃ s : List UInt8, s.length = 32 ∧ ds = encS s := by
  match n, h with
  | n + 1, h => exact shp_bytes (n := n) (m := 32) h
theorem shp_secs {n : Nat} : ∀ {es : List (List D)}, (∀ x ∈ es, Shp ti n 43 x) → ∃ m : List (List UInt8), ImOK m ∧ es = m.map encS
  | [], _ => ⟨[], (fun s hs => by cases hs), rfl⟩
  | x :: es, h => by
    obtain ⟨s, hs, rfl⟩ := shp_sec (h x List.mem_cons_self)
    obtain ⟨m, hm, rfl⟩ := shp_secs (fun y hy => h y (List.mem_cons_of_mem _ hy))
    refine ⟨s :: m, fun t ht => ?_, rfl⟩
    rcases List.mem_cons.1 ht with rfl | ht
    · exact hs
    · exact hm t ht
theorem shp_img {n : Nat} {x : D} (h : Shp ti n 22 [x]) : ∃ m : List (List UInt8), ImOK m ∧ x = encM m := by
  match n, h with
  | n + 1, h =>
    obtain ⟨es, hl, _, he⟩ := h
    obtain ⟨m, hm, rfl⟩ := shp_secs he
    exact ⟨m, hm, by simpa using hl⟩
theorem shp_int {n : Nat} {ds : List D} (h : Shp ti n 3 ds) : ∃ z : Int, ds = [.it .i64 z] := by
  match n, h with
  | n + 1, h =>
    obtain ⟨z, rfl, _⟩ := h
    exact ⟨z, rfl⟩
theorem shp_wr {n : Nat} {ds : List D} (h : Shp ti n 47 ds) : ∃ w : Wr, w.s.length = 32 ∧ ds = encW w := by
  match n, h with
  | n + 1, h =>
    obtain ⟨a, b, rfl, ha, c, d, rfl, hc, e, f, rfl, he, g, q, rfl, hg, rfl⟩ := h
    obtain ⟨za, rfl⟩ := shp_int ha
    obtain ⟨s, hs, rfl⟩ := shp_sec hc
    obtain ⟨ze, rfl⟩ := shp_int hg
    match n, he with
    | n + 1, he =>
      obtain ⟨k, i, rfl, hk, j, r, rfl, hj, rfl⟩ := he
      obtain ⟨zk, rfl⟩ := shp_int hk
      obtain ⟨zj, rfl⟩ := shp_int hj
      exact ⟨⟨za, s, zk, zj, ze⟩, hs, by simp [encW]⟩
theorem shp_wrs {n : Nat} : ∀ {es : List (List D)}, (∀ x ∈ es, Shp ti n 47 x) → ∃ l : List Wr, WsOK l ∧ es = l.map encW
  | [], _ => ⟨[], (fun s hs => by cases hs), rfl⟩
  | x :: es, h => by
    obtain ⟨s, hs, rfl⟩ := shp_wr (h x List.mem_cons_self)
    obtain ⟨m, hm, rfl⟩ := shp_wrs (fun y hy => h y (List.mem_cons_of_mem _ hy))
    refine ⟨s :: m, fun t ht => ?_, rfl⟩
    rcases List.mem_cons.1 ht with rfl | ht
    · exact hs
    · exact hm t ht
theorem shp_ws {n : Nat} {x : D} (h : Shp ti n 23 [x]) : ∃ l : List Wr, WsOK l ∧ x = .fs 36 (l.map encW) := by
  match n, h with
  | n + 1, h =>
    obtain ⟨es, hl, _, he⟩ := h
    obtain ⟨m, hm, rfl⟩ := shp_wrs he
    exact ⟨m, hm, by simpa using hl⟩
theorem own : ownKnob Tryz.prog.godebug = none := by kernel_rfl
theorem laidOut : laidOutB Tryz.prog = true := by kernel_rfl

namespace tells
/-- For every argument and every world. -/
theorem contract (H : Type) (enc : TypeId × Value → H) (W : World) (base : Nat) (args : Array Value) (ds gs : List (DataW H)) (before : List MemPlace)
    (hval : ∀ (j : Nat) t v, Tryz.f3.params[j]? = some t → args[j]? = some v → Value.okWide Tryz.prog W .any base t v)
    (hW : DataW.Whole enc Tryz.prog Tryz.f3.params.toList Rows.checkTellsSpec.vars false W args.toList ds gs before) :
    Calls Tryz.prog 3 args W fun e W' => ∃ v, e = .returned v ∧ Rows.checkTellsSpec.post enc Tryz.prog Tryz.f3 false true false false W args v W' := by
  have hW' := hW
  obtain ⟨p, q, hA, hV, rfl, _, _⟩ := hW
  have hA' : DataW.TrodAll enc Tryz.prog W 0 (fun _ => true) true [22, 23] args.toList ds p := hA
  obtain ⟨v0, _, d0, _, p0, _, e0, rfl, _, h0, hA1⟩ := trodAll_cons hA'
  obtain ⟨v1, _, d1, _, p1, _, rfl, rfl, _, h1, hA2⟩ := trodAll_cons hA1
  obtain ⟨rfl, rfl, _⟩ := trodAll_nil hA2
  obtain rfl : args = #[v0, v1] := by cases args; simp_all
  obtain ⟨rfl, rfl⟩ := trodVars_none hV
  obtain ⟨n0, x0, s0, a0⟩ := arg_one ti_ok closed (t := 22) (by decide) (ty := _) rfl rfl (hval 0 22 v0 rfl rfl) h0
  obtain ⟨n1, x1, s1, a1⟩ := arg_one ti_ok closed (t := 23) (by decide) (ty := _) rfl rfl (hval 1 23 v1 rfl rfl) h1
  obtain ⟨m, hm, rfl⟩ := shp_img s0
  obtain ⟨ws, hw, rfl⟩ := shp_ws s1
  refine (FnC.enter (law13_ok m hm ws hw) (Tryz.call3 _ _) rfl ?_).mono ?_
  · intro j hj
    match j, hj with
    | 0, _ => exact a0
    | 1, _ => exact a1
  · rintro e W' ⟨rfl, hB⟩
    exact ⟨_, rfl, law_post hW' rfl rfl rfl rfl rfl Tryz.underlying4 laidOut (by decide +kernel) hB⟩

noncomputable def wit : Array Value := #[.slice none 0 0, .slice none 0 0]
noncomputable def laidWorld (os : Os) : World :=
  { World.holding Tryz.prog os ⟨#[], #[], []⟩ with heap := laidHeap (World.holding Tryz.prog os ⟨#[], #[], []⟩).heap [(1, Rows.laid_unicode_utf8_acceptRanges), (0, Rows.laid_unicode_utf8_first)] }
theorem laid_met (os : Os) : laidMet Tryz.prog Rows.checkTellsRow.laid ((laidWorld os).forCall (fun _ _ => 0) ⟨#[], wit, []⟩).memory :=
  laidMet_of_run' 8 (by kernel_rfl) (by kernel_rfl)
theorem reads (os : Os) {H : Type} (enc : TypeId × Value → H) : ∃ places, DataW.whole enc Tryz.prog ((laidWorld os).forCall (fun _ _ => 0) ⟨#[], wit, []⟩).memory Tryz.f3.params.toList Rows.checkTellsSpec.vars false wit.toList 8 = some ([.nil, .nil], [], places) :=
  ⟨[], by kernel_rfl⟩

theorem lifted (os : Os) (started : os.Started) (H : Type) (enc : TypeId × Value → H) (F : Stop.Interp) :
    ReturnsInHanded {} Tryz.checked os 3 .any ((OpenSpec.ofChange Rows.checkTellsSpec).preRow enc Tryz.prog Tryz.f3 Rows.checkTellsRow.domain false Rows.checkTellsRow.laid) (((OpenSpec.ofChange Rows.checkTellsSpec).at F).post enc Tryz.prog Tryz.f3 false true false false) := by
  obtain ⟨places, hx⟩ := reads os enc
  refine returnsInHanded_of_row (C := Tryz.checked) (s := OpenSpec.ofChange Rows.checkTellsSpec) own started (by kernel_rfl) Tryz.func3
    (witness_row_at (enc := enc) (C := Tryz.checked) false (laidWorld os) wit rfl (by kernel_rfl) (by kernel_rfl) (by kernel_rfl)
      (OpenSpec.preRow_of_cond 8 hx (by kernel_rfl) (fun k hk => by cases hk) (by kernel_rfl) (laid_met os))) ?_
  intro W base args ds gs before hval hW _ _ _ _ _ _
  exact contract H enc W base args ds gs before hval hW

theorem said : Rows.CheckTellsSaid :=
  OpenClaim.holds_of_cond 3 Tryz.f3 rfl rfl rfl rfl rfl rfl rfl ⟨rfl, rfl, rfl, rfl, rfl⟩ rfl rfl rfl rfl rfl (by kernel_rfl) Tryz.func3 (by kernel_rfl)
    (of_decide_eq_true (by kernel_rfl)) (by unfold Func.isWrapper; first | (rw [if_pos (by decide +kernel)]; kernel_rfl) | (rw [if_neg (by decide +kernel)]; exact ⟨rfl, rfl⟩))
    (fun os started H enc _ F => by rw [OpenClaim.pre_eq_preRow]; exact lifted os started H enc F)

theorem plain (f : FuncId) (fn : Func) (hf : Tryz.pinned.checked.prog.funcNamed "flotsam/flotsamlaw13.CheckTells" = some f) (hfn : Tryz.pinned.checked.prog.funcs[f]? = some fn) :
    false = Tryz.pinned.checked.prog.looks [] ∧ ∀ (j : Nat) t, fn.params[j]? = some t → Tryz.pinned.checked.prog.wantsStandIn t = false := by
  obtain rfl : f = 3 := Option.some.inj ((show Tryz.prog.funcNamed "flotsam/flotsamlaw13.CheckTells" = some 3 by kernel_rfl).symm.trans hf) |>.symm
  obtain rfl : fn = Tryz.f3 := (Option.some.inj (Tryz.func3.symm.trans hfn)).symm
  refine ⟨by kernel_rfl, fun j t ht => ?_⟩
  have hall : ∀ t ∈ Tryz.f3.params, Tryz.prog.wantsStandIn t = false := by decide +kernel
  exact hall t (Array.mem_of_getElem? ht)

/-- The card. -/
theorem card : Rows.CheckTellsCardSaid :=
  Claim7.holds_tied_plain_at .later [] _ _ _ _ said (fun _ h => by cases h) (by kernel_rfl) (fun _ h => by cases h) checkTells_row_tie rfl ⟨rfl, rfl⟩ (by kernel_rfl) rfl plain (by kernel_rfl)
end tells
end Go.Proofs.YtenomegafkileaaGreatDoor
