/- Contracts of the functions that the law reaches, and the law. Conditions: none. -/
import Derived.Test.YtikgcbioagmkkaaGreatDoorFKD
import Derived.Test.YtikgcbioagmkkaaGreatDoorFSE
set_option maxRecDepth 100000
set_option linter.all false
set_option maxHeartbeats 16000000
namespace Go.Sy
theorem nodBk:∀{l:List Nat},QQj l=true→l.Nodup
 |[],_=>List.nodup_nil
 |k::l,h=>by
  simp only[QQj,Bool.and_eq_true,Bool.not_eq_true']at h
  exact List.nodup_cons.2 ⟨fun hk=>(by rw[Qv.2 hk]at h;exact absurd h.1 (by decide)),nodBk h.2⟩
theorem QI.tow{P:Program}{ti:Nat→Option Ty}{N:Nat}{ops:List Oper}{done D:List Nat}{σ τ:S}{K:S→Prop}(h:QI P ti N ops D τ K)(hB:(QMG D done&&QQj D)=true)(hw:Wk N σ τ):QI P ti N ops done σ K:=by
 simp only [Bool.and_eq_true] at hB
 refine ⟨fun κ g a w hst Q hQ fuel listed hd hf=>?_⟩
 obtain ⟨g2,hst2⟩:=hw.run κ g a w hst
 have hl:D.length=done.length:=by
  have:=hB.1
  simp only [QMG,Bool.and_eq_true] at this
  exact Nat.eq_of_beq_eq_true this.2
 exact h.run κ g2 a w hst2 Q hQ fuel listed (hd.same (nodBk hB.2) hB.1) (by omega)
end Go.Sy
namespace Go.Proofs.YtikgcbioagmkkaaGreatDoor
open Go.Sy
def seO(b:Bool)(bad:List Int)(d:Dk)(sf:List (List D)):List (Nat×Ob):=[(0,.cells 6 [.mp 3,.d (.it .i64 d.nx),.vx 32 4 0 d.safe.length,.ts 36 (d.wait.map Qx) 1,.ts 38 d.log 2,.d (.it .i64 d.ep)]),(1,.tail 49 true),(2,.tail 110 true),(3,.mp b false [.it .i64 0] (QAf bad)),(4,.vec 37 32 sf false)]
def seX(T:Nat→Nat)(M:List (List D×D)):List (Nat×Ob):=[(5,.mp true true tpT M)]++Qn 6 [0] T++[(8,.cells 1 [.mp 5])]
def seS(b:Bool)(bad:List Int)(d:Dk)(T:Nat→Nat)(M:List (List D×D))(sl:List (Nat×AV))(m:List (Nat×Ob)):S:=⟨sl,seO b bad d (d.safe.map QF)++seX T M++m,12⟩
noncomputable def ZR:List Oper:=Ql 0 0 (Ql 0 0 (Ql 0 0 (QQk 1 (Go.Sy.bd Tryz.f168))))
theorem dwk{N:Nat}{σ τ:S}{D done:List Nat}{ops:List Oper}{K:S→Prop}(h:QI Tryz.prog ti N ops D τ K)(hw:Wk N σ τ)(hB:(QMG D done&&QQj D)=true:=by decide+kernel):QI Tryz.prog ti N ops done σ K:=h.tow hB hw
def r9:Nat→Nat|9=>12|j=>j
def r10:Nat→Nat|10=>12|j=>j
theorem seR(b:Bool)(bad:List Int)(d:Dk)(T:Nat→Nat)(M:List (List D×D))(t:Option Int)
  (hT:FnH Tryz.prog 217 [.d (.fs 36 (d.wait.map Qx)),.mp 0] [(0,.mp true true tpT M),(1,.cells 1 [.mp 0])] 2 [1] (.tup [.d (.it .i64 (bst t)),.d (.bl (smB t))]) [(0,.mp true true tpT M),(1,.cells 1 [.mp 0])] 2) {K:S→Prop}
  (hK:∀σ,Wk 92 σ (seS b bad d T M [(0,.ptr 0 0),(3,.ptr 8 0),(4,.ptr 9 0),(5,.ptr 10 0)] [(9,.cells 1 [.d (.it .i64 (bst t))]),(10,.cells 1 [.d (.bl (smB t))])])→K σ):QI Tryz.prog ti 92 ZR [] (seS b bad d T M [(0,.ptr 0 0),(3,.ptr 8 0),(18,.ptr 0 3)] []) K:=by
 have h012345678:QI Tryz.prog ti 92 ZR [0,1,2,3,4,5,6,7,8] (seS b bad d T M [(0,.ptr 0 0),(3,.ptr 8 0),(23,.d (.bl (smB t))),(4,.ptr 9 0),(5,.ptr 10 0)] [(9,.cells 1 [.d (.it .i64 (bst t))]),(10,.cells 1 [.d (.bl false)])]) K:=by
  refine QI.fin QA (.cons 9 .nil .nil) (by decide+kernel) ?_
  refine Br.mk ?_ trivial
  unfold seS
  (repeat' ((conv=>whnf);first|refine QB ?_|intro x hx hu|intro h|refine Spp.mk ?_ ?_))
  conv=>whnf
  exact hK _ (Wk.en (⟨(ai rfl (ai rfl (ai rfl (ai rfl trivial)))),(ai rfl (ai rfl (ai rfl (ai rfl (ai rfl (ai rfl (ai rfl (ai rfl (ai rfl (ai rfl (ai rfl trivial))))))))))),rfl⟩))
 have h01234567:QI Tryz.prog ti 92 ZR [0,1,2,3,4,5,6,7] (seS b bad d T M [(0,.ptr 0 0),(3,.ptr 8 0),(22,.d (.it .i64 (bst t))),(23,.d (.bl (smB t))),(4,.ptr 9 0),(5,.ptr 10 0)] [(9,.cells 1 [.d (.it .i64 0)]),(10,.cells 1 [.d (.bl false)])]) K:=by
  refine QI.alt QA [8] (by decide+kernel) ?_
  unfold seS
  refine Br.mk ?_ trivial
  ·(repeat' ((conv=>whnf);first|refine QB ?_|intro x hx hu|intro h|refine Spp.mk ?_ ?_))
   exact dwk h012345678 (Wk.en (⟨(ai rfl (ai rfl (ai rfl (ai rfl (ai rfl trivial))))),(ai rfl (ai rfl (ai rfl (ai rfl (ai rfl (ai rfl (ai rfl (ai rfl (ai rfl (ai rfl (ai rfl trivial))))))))))),rfl⟩))
 have h0123456:QI Tryz.prog ti 92 ZR [0,1,2,3,4,5,6] (seS b bad d T M [(0,.ptr 0 0),(3,.ptr 8 0),(22,.d (.it .i64 (bst t))),(23,.d (.bl (smB t))),(4,.ptr 9 0)] [(9,.cells 1 [.d (.it .i64 0)])]) K:=by
  refine QI.alt QA [7] (by decide+kernel) ?_
  unfold seS
  refine Br.mk ?_ trivial
  ·(repeat' ((conv=>whnf);first|refine QB ?_|intro x hx hu|intro h|refine Spp.mk ?_ ?_))
   exact dwk h01234567 (Wk.ren r10 (ai rfl (ai rfl (ai rfl (ai rfl (ai rfl (ai rfl trivial)))))) (ai rfl (ai rfl (ai rfl (ai rfl (ai rfl (ai rfl (ai rfl (ai rfl (ai rfl (ai rfl (ai rfl trivial))))))))))) rfl rfl)
 have h0123457:QI Tryz.prog ti 92 ZR [0,1,2,3,4,5,7] (seS b bad d T M [(0,.ptr 0 0),(3,.ptr 8 0),(22,.d (.it .i64 (bst t))),(23,.d (.bl (smB t))),(5,.ptr 10 0)] [(10,.cells 1 [.d (.bl false)])]) K:=by
  refine QI.alt QA [6] (by decide+kernel) ?_
  unfold seS
  refine Br.mk ?_ trivial
  ·(repeat' ((conv=>whnf);first|refine QB ?_|intro x hx hu|intro h|refine Spp.mk ?_ ?_))
   exact dwk h01234567 (Wk.ren r9 (ai rfl (ai rfl (ai rfl (ai rfl (ai rfl (ai rfl trivial)))))) (ai rfl (ai rfl (ai rfl (ai rfl (ai rfl (ai rfl (ai rfl (ai rfl (ai rfl (ai rfl (ai rfl trivial))))))))))) rfl rfl)
 have h012345:QI Tryz.prog ti 92 ZR [0,1,2,3,4,5] (seS b bad d T M [(0,.ptr 0 0),(3,.ptr 8 0),(22,.d (.it .i64 (bst t))),(23,.d (.bl (smB t)))] []) K:=by
  refine QI.alt QA [6,7] (by decide+kernel) ?_
  unfold seS
  refine Br.mk ?_ (Br.mk ?_ trivial)
  ·(repeat' ((conv=>whnf);first|refine QB ?_|intro x hx hu|intro h|refine Spp.mk ?_ ?_))
   exact dwk h0123456 (Wk.ren r9 (ai rfl (ai rfl (ai rfl (ai rfl (ai rfl trivial))))) (ai rfl (ai rfl (ai rfl (ai rfl (ai rfl (ai rfl (ai rfl (ai rfl (ai rfl (ai rfl trivial)))))))))) rfl rfl)
  ·(repeat' ((conv=>whnf);first|refine QB ?_|intro x hx hu|intro h|refine Spp.mk ?_ ?_))
   exact dwk h0123457 (Wk.ren r10 (ai rfl (ai rfl (ai rfl (ai rfl (ai rfl trivial))))) (ai rfl (ai rfl (ai rfl (ai rfl (ai rfl (ai rfl (ai rfl (ai rfl (ai rfl (ai rfl trivial)))))))))) rfl rfl)
 have h01234678:QI Tryz.prog ti 92 ZR [0,1,2,3,4,6,7,8] (seS b bad d T M [(0,.ptr 0 0),(3,.ptr 8 0),(15,.tup [.d (.it .i64 (bst t)),.d (.bl (smB t))]),(4,.ptr 9 0),(5,.ptr 10 0)] [(9,.cells 1 [.d (.it .i64 (bst t))]),(10,.cells 1 [.d (.bl false)])]) K:=by
  refine QI.alt QA [5] (by decide+kernel) ?_
  unfold seS
  refine Br.mk ?_ trivial
  ·(repeat' ((conv=>whnf);first|refine QB ?_|intro x hx hu|intro h|refine Spp.mk ?_ ?_))
   exact dwk h012345678 (Wk.en (⟨(ai rfl (ai rfl (ai rfl (ai rfl (ai rfl trivial))))),(ai rfl (ai rfl (ai rfl (ai rfl (ai rfl (ai rfl (ai rfl (ai rfl (ai rfl (ai rfl (ai rfl trivial))))))))))),rfl⟩))
 have h0123467:QI Tryz.prog ti 92 ZR [0,1,2,3,4,6,7] (seS b bad d T M [(0,.ptr 0 0),(3,.ptr 8 0),(15,.tup [.d (.it .i64 (bst t)),.d (.bl (smB t))]),(22,.d (.it .i64 (bst t))),(4,.ptr 9 0),(5,.ptr 10 0)] [(9,.cells 1 [.d (.it .i64 0)]),(10,.cells 1 [.d (.bl false)])]) K:=by
  refine QI.alt QA [5,8] (by decide+kernel) ?_
  unfold seS
  refine Br.mk ?_ (Br.mk ?_ trivial)
  ·(repeat' ((conv=>whnf);first|refine QB ?_|intro x hx hu|intro h|refine Spp.mk ?_ ?_))
   exact dwk h01234567 (Wk.en (⟨(ai rfl (ai rfl (ai rfl (ai rfl (ai rfl (ai rfl trivial)))))),(ai rfl (ai rfl (ai rfl (ai rfl (ai rfl (ai rfl (ai rfl (ai rfl (ai rfl (ai rfl (ai rfl trivial))))))))))),rfl⟩))
  ·(repeat' ((conv=>whnf);first|refine QB ?_|intro x hx hu|intro h|refine Spp.mk ?_ ?_))
   exact dwk h01234678 (Wk.en (⟨(ai rfl (ai rfl (ai rfl (ai rfl (ai rfl trivial))))),(ai rfl (ai rfl (ai rfl (ai rfl (ai rfl (ai rfl (ai rfl (ai rfl (ai rfl (ai rfl (ai rfl trivial))))))))))),rfl⟩))
 have h012346:QI Tryz.prog ti 92 ZR [0,1,2,3,4,6] (seS b bad d T M [(0,.ptr 0 0),(3,.ptr 8 0),(15,.tup [.d (.it .i64 (bst t)),.d (.bl (smB t))]),(22,.d (.it .i64 (bst t))),(4,.ptr 9 0)] [(9,.cells 1 [.d (.it .i64 0)])]) K:=by
  refine QI.alt QA [5,7] (by decide+kernel) ?_
  unfold seS
  refine Br.mk ?_ (Br.mk ?_ trivial)
  ·(repeat' ((conv=>whnf);first|refine QB ?_|intro x hx hu|intro h|refine Spp.mk ?_ ?_))
   exact dwk h0123456 (Wk.en (⟨(ai rfl (ai rfl (ai rfl (ai rfl (ai rfl trivial))))),(ai rfl (ai rfl (ai rfl (ai rfl (ai rfl (ai rfl (ai rfl (ai rfl (ai rfl (ai rfl trivial)))))))))),rfl⟩))
  ·(repeat' ((conv=>whnf);first|refine QB ?_|intro x hx hu|intro h|refine Spp.mk ?_ ?_))
   exact dwk h0123467 (Wk.ren r10 (ai rfl (ai rfl (ai rfl (ai rfl (ai rfl (ai rfl trivial)))))) (ai rfl (ai rfl (ai rfl (ai rfl (ai rfl (ai rfl (ai rfl (ai rfl (ai rfl (ai rfl (ai rfl trivial))))))))))) rfl rfl)
 have h012347:QI Tryz.prog ti 92 ZR [0,1,2,3,4,7] (seS b bad d T M [(0,.ptr 0 0),(3,.ptr 8 0),(15,.tup [.d (.it .i64 (bst t)),.d (.bl (smB t))]),(22,.d (.it .i64 (bst t))),(5,.ptr 10 0)] [(10,.cells 1 [.d (.bl false)])]) K:=by
  refine QI.alt QA [5,6] (by decide+kernel) ?_
  unfold seS
  refine Br.mk ?_ (Br.mk ?_ trivial)
  ·(repeat' ((conv=>whnf);first|refine QB ?_|intro x hx hu|intro h|refine Spp.mk ?_ ?_))
   exact dwk h0123457 (Wk.en (⟨(ai rfl (ai rfl (ai rfl (ai rfl (ai rfl trivial))))),(ai rfl (ai rfl (ai rfl (ai rfl (ai rfl (ai rfl (ai rfl (ai rfl (ai rfl (ai rfl trivial)))))))))),rfl⟩))
  ·(repeat' ((conv=>whnf);first|refine QB ?_|intro x hx hu|intro h|refine Spp.mk ?_ ?_))
   exact dwk h0123467 (Wk.ren r9 (ai rfl (ai rfl (ai rfl (ai rfl (ai rfl (ai rfl trivial)))))) (ai rfl (ai rfl (ai rfl (ai rfl (ai rfl (ai rfl (ai rfl (ai rfl (ai rfl (ai rfl (ai rfl trivial))))))))))) rfl rfl)
 have h01234:QI Tryz.prog ti 92 ZR [0,1,2,3,4] (seS b bad d T M [(0,.ptr 0 0),(3,.ptr 8 0),(15,.tup [.d (.it .i64 (bst t)),.d (.bl (smB t))]),(22,.d (.it .i64 (bst t)))] []) K:=by
  refine QI.alt QA [5,6,7] (by decide+kernel) ?_
  unfold seS
  refine Br.mk ?_ (Br.mk ?_ (Br.mk ?_ trivial))
  ·(repeat' ((conv=>whnf);first|refine QB ?_|intro x hx hu|intro h|refine Spp.mk ?_ ?_))
   exact dwk h012345 (Wk.en (⟨(ai rfl (ai rfl (ai rfl (ai rfl trivial)))),(ai rfl (ai rfl (ai rfl (ai rfl (ai rfl (ai rfl (ai rfl (ai rfl (ai rfl trivial))))))))),rfl⟩))
  ·(repeat' ((conv=>whnf);first|refine QB ?_|intro x hx hu|intro h|refine Spp.mk ?_ ?_))
   exact dwk h012346 (Wk.ren r9 (ai rfl (ai rfl (ai rfl (ai rfl (ai rfl trivial))))) (ai rfl (ai rfl (ai rfl (ai rfl (ai rfl (ai rfl (ai rfl (ai rfl (ai rfl (ai rfl trivial)))))))))) rfl rfl)
  ·(repeat' ((conv=>whnf);first|refine QB ?_|intro x hx hu|intro h|refine Spp.mk ?_ ?_))
   exact dwk h012347 (Wk.ren r10 (ai rfl (ai rfl (ai rfl (ai rfl (ai rfl trivial))))) (ai rfl (ai rfl (ai rfl (ai rfl (ai rfl (ai rfl (ai rfl (ai rfl (ai rfl (ai rfl trivial)))))))))) rfl rfl)
 have h0123567:QI Tryz.prog ti 92 ZR [0,1,2,3,5,6,7] (seS b bad d T M [(0,.ptr 0 0),(3,.ptr 8 0),(15,.tup [.d (.it .i64 (bst t)),.d (.bl (smB t))]),(23,.d (.bl (smB t))),(4,.ptr 9 0),(5,.ptr 10 0)] [(9,.cells 1 [.d (.it .i64 0)]),(10,.cells 1 [.d (.bl false)])]) K:=by
  refine QI.alt QA [4] (by decide+kernel) ?_
  unfold seS
  refine Br.mk ?_ trivial
  ·(repeat' ((conv=>whnf);first|refine QB ?_|intro x hx hu|intro h|refine Spp.mk ?_ ?_))
   exact dwk h01234567 (Wk.en (⟨(ai rfl (ai rfl (ai rfl (ai rfl (ai rfl (ai rfl trivial)))))),(ai rfl (ai rfl (ai rfl (ai rfl (ai rfl (ai rfl (ai rfl (ai rfl (ai rfl (ai rfl (ai rfl trivial))))))))))),rfl⟩))
 have h012356:QI Tryz.prog ti 92 ZR [0,1,2,3,5,6] (seS b bad d T M [(0,.ptr 0 0),(3,.ptr 8 0),(15,.tup [.d (.it .i64 (bst t)),.d (.bl (smB t))]),(23,.d (.bl (smB t))),(4,.ptr 9 0)] [(9,.cells 1 [.d (.it .i64 0)])]) K:=by
  refine QI.alt QA [4,7] (by decide+kernel) ?_
  unfold seS
  refine Br.mk ?_ (Br.mk ?_ trivial)
  ·(repeat' ((conv=>whnf);first|refine QB ?_|intro x hx hu|intro h|refine Spp.mk ?_ ?_))
   exact dwk h0123456 (Wk.en (⟨(ai rfl (ai rfl (ai rfl (ai rfl (ai rfl trivial))))),(ai rfl (ai rfl (ai rfl (ai rfl (ai rfl (ai rfl (ai rfl (ai rfl (ai rfl (ai rfl trivial)))))))))),rfl⟩))
  ·(repeat' ((conv=>whnf);first|refine QB ?_|intro x hx hu|intro h|refine Spp.mk ?_ ?_))
   exact dwk h0123567 (Wk.ren r10 (ai rfl (ai rfl (ai rfl (ai rfl (ai rfl (ai rfl trivial)))))) (ai rfl (ai rfl (ai rfl (ai rfl (ai rfl (ai rfl (ai rfl (ai rfl (ai rfl (ai rfl (ai rfl trivial))))))))))) rfl rfl)
 have h012357:QI Tryz.prog ti 92 ZR [0,1,2,3,5,7] (seS b bad d T M [(0,.ptr 0 0),(3,.ptr 8 0),(15,.tup [.d (.it .i64 (bst t)),.d (.bl (smB t))]),(23,.d (.bl (smB t))),(5,.ptr 10 0)] [(10,.cells 1 [.d (.bl false)])]) K:=by
  refine QI.alt QA [4,6] (by decide+kernel) ?_
  unfold seS
  refine Br.mk ?_ (Br.mk ?_ trivial)
  ·(repeat' ((conv=>whnf);first|refine QB ?_|intro x hx hu|intro h|refine Spp.mk ?_ ?_))
   exact dwk h0123457 (Wk.en (⟨(ai rfl (ai rfl (ai rfl (ai rfl (ai rfl trivial))))),(ai rfl (ai rfl (ai rfl (ai rfl (ai rfl (ai rfl (ai rfl (ai rfl (ai rfl (ai rfl trivial)))))))))),rfl⟩))
  ·(repeat' ((conv=>whnf);first|refine QB ?_|intro x hx hu|intro h|refine Spp.mk ?_ ?_))
   exact dwk h0123567 (Wk.ren r9 (ai rfl (ai rfl (ai rfl (ai rfl (ai rfl (ai rfl trivial)))))) (ai rfl (ai rfl (ai rfl (ai rfl (ai rfl (ai rfl (ai rfl (ai rfl (ai rfl (ai rfl (ai rfl trivial))))))))))) rfl rfl)
 have h01235:QI Tryz.prog ti 92 ZR [0,1,2,3,5] (seS b bad d T M [(0,.ptr 0 0),(3,.ptr 8 0),(15,.tup [.d (.it .i64 (bst t)),.d (.bl (smB t))]),(23,.d (.bl (smB t)))] []) K:=by
  refine QI.alt QA [4,6,7] (by decide+kernel) ?_
  unfold seS
  refine Br.mk ?_ (Br.mk ?_ (Br.mk ?_ trivial))
  ·(repeat' ((conv=>whnf);first|refine QB ?_|intro x hx hu|intro h|refine Spp.mk ?_ ?_))
   exact dwk h012345 (Wk.en (⟨(ai rfl (ai rfl (ai rfl (ai rfl trivial)))),(ai rfl (ai rfl (ai rfl (ai rfl (ai rfl (ai rfl (ai rfl (ai rfl (ai rfl trivial))))))))),rfl⟩))
  ·(repeat' ((conv=>whnf);first|refine QB ?_|intro x hx hu|intro h|refine Spp.mk ?_ ?_))
   exact dwk h012356 (Wk.ren r9 (ai rfl (ai rfl (ai rfl (ai rfl (ai rfl trivial))))) (ai rfl (ai rfl (ai rfl (ai rfl (ai rfl (ai rfl (ai rfl (ai rfl (ai rfl (ai rfl trivial)))))))))) rfl rfl)
  ·(repeat' ((conv=>whnf);first|refine QB ?_|intro x hx hu|intro h|refine Spp.mk ?_ ?_))
   exact dwk h012357 (Wk.ren r10 (ai rfl (ai rfl (ai rfl (ai rfl (ai rfl trivial))))) (ai rfl (ai rfl (ai rfl (ai rfl (ai rfl (ai rfl (ai rfl (ai rfl (ai rfl (ai rfl trivial)))))))))) rfl rfl)
 have h012367:QI Tryz.prog ti 92 ZR [0,1,2,3,6,7] (seS b bad d T M [(0,.ptr 0 0),(3,.ptr 8 0),(15,.tup [.d (.it .i64 (bst t)),.d (.bl (smB t))]),(4,.ptr 9 0),(5,.ptr 10 0)] [(9,.cells 1 [.d (.it .i64 0)]),(10,.cells 1 [.d (.bl false)])]) K:=by
  refine QI.alt QA [4,5] (by decide+kernel) ?_
  unfold seS
  refine Br.mk ?_ (Br.mk ?_ trivial)
  ·(repeat' ((conv=>whnf);first|refine QB ?_|intro x hx hu|intro h|refine Spp.mk ?_ ?_))
   exact dwk h0123467 (Wk.en (⟨(ai rfl (ai rfl (ai rfl (ai rfl (ai rfl (ai rfl trivial)))))),(ai rfl (ai rfl (ai rfl (ai rfl (ai rfl (ai rfl (ai rfl (ai rfl (ai rfl (ai rfl (ai rfl trivial))))))))))),rfl⟩))
  ·(repeat' ((conv=>whnf);first|refine QB ?_|intro x hx hu|intro h|refine Spp.mk ?_ ?_))
   exact dwk h0123567 (Wk.en (⟨(ai rfl (ai rfl (ai rfl (ai rfl (ai rfl (ai rfl trivial)))))),(ai rfl (ai rfl (ai rfl (ai rfl (ai rfl (ai rfl (ai rfl (ai rfl (ai rfl (ai rfl (ai rfl trivial))))))))))),rfl⟩))
 have h01236:QI Tryz.prog ti 92 ZR [0,1,2,3,6] (seS b bad d T M [(0,.ptr 0 0),(3,.ptr 8 0),(15,.tup [.d (.it .i64 (bst t)),.d (.bl (smB t))]),(4,.ptr 9 0)] [(9,.cells 1 [.d (.it .i64 0)])]) K:=by
  refine QI.alt QA [4,5,7] (by decide+kernel) ?_
  unfold seS
  refine Br.mk ?_ (Br.mk ?_ (Br.mk ?_ trivial))
  ·(repeat' ((conv=>whnf);first|refine QB ?_|intro x hx hu|intro h|refine Spp.mk ?_ ?_))
   exact dwk h012346 (Wk.en (⟨(ai rfl (ai rfl (ai rfl (ai rfl (ai rfl trivial))))),(ai rfl (ai rfl (ai rfl (ai rfl (ai rfl (ai rfl (ai rfl (ai rfl (ai rfl (ai rfl trivial)))))))))),rfl⟩))
  ·(repeat' ((conv=>whnf);first|refine QB ?_|intro x hx hu|intro h|refine Spp.mk ?_ ?_))
   exact dwk h012356 (Wk.en (⟨(ai rfl (ai rfl (ai rfl (ai rfl (ai rfl trivial))))),(ai rfl (ai rfl (ai rfl (ai rfl (ai rfl (ai rfl (ai rfl (ai rfl (ai rfl (ai rfl trivial)))))))))),rfl⟩))
  ·(repeat' ((conv=>whnf);first|refine QB ?_|intro x hx hu|intro h|refine Spp.mk ?_ ?_))
   exact dwk h012367 (Wk.ren r10 (ai rfl (ai rfl (ai rfl (ai rfl (ai rfl trivial))))) (ai rfl (ai rfl (ai rfl (ai rfl (ai rfl (ai rfl (ai rfl (ai rfl (ai rfl (ai rfl (ai rfl trivial))))))))))) rfl rfl)
 have h01237:QI Tryz.prog ti 92 ZR [0,1,2,3,7] (seS b bad d T M [(0,.ptr 0 0),(3,.ptr 8 0),(15,.tup [.d (.it .i64 (bst t)),.d (.bl (smB t))]),(5,.ptr 10 0)] [(10,.cells 1 [.d (.bl false)])]) K:=by
  refine QI.alt QA [4,5,6] (by decide+kernel) ?_
  unfold seS
  refine Br.mk ?_ (Br.mk ?_ (Br.mk ?_ trivial))
  ·(repeat' ((conv=>whnf);first|refine QB ?_|intro x hx hu|intro h|refine Spp.mk ?_ ?_))
   exact dwk h012347 (Wk.en (⟨(ai rfl (ai rfl (ai rfl (ai rfl (ai rfl trivial))))),(ai rfl (ai rfl (ai rfl (ai rfl (ai rfl (ai rfl (ai rfl (ai rfl (ai rfl (ai rfl trivial)))))))))),rfl⟩))
  ·(repeat' ((conv=>whnf);first|refine QB ?_|intro x hx hu|intro h|refine Spp.mk ?_ ?_))
   exact dwk h012357 (Wk.en (⟨(ai rfl (ai rfl (ai rfl (ai rfl (ai rfl trivial))))),(ai rfl (ai rfl (ai rfl (ai rfl (ai rfl (ai rfl (ai rfl (ai rfl (ai rfl (ai rfl trivial)))))))))),rfl⟩))
  ·(repeat' ((conv=>whnf);first|refine QB ?_|intro x hx hu|intro h|refine Spp.mk ?_ ?_))
   exact dwk h012367 (Wk.ren r9 (ai rfl (ai rfl (ai rfl (ai rfl (ai rfl trivial))))) (ai rfl (ai rfl (ai rfl (ai rfl (ai rfl (ai rfl (ai rfl (ai rfl (ai rfl (ai rfl (ai rfl trivial))))))))))) rfl rfl)
 have h0123:QI Tryz.prog ti 92 ZR [0,1,2,3] (seS b bad d T M [(0,.ptr 0 0),(3,.ptr 8 0),(15,.tup [.d (.it .i64 (bst t)),.d (.bl (smB t))])] []) K:=by
  refine QI.alt QA [4,5,6,7] (by decide+kernel) ?_
  unfold seS
  refine Br.mk ?_ (Br.mk ?_ (Br.mk ?_ (Br.mk ?_ trivial)))
  ·(repeat' ((conv=>whnf);first|refine QB ?_|intro x hx hu|intro h|refine Spp.mk ?_ ?_))
   exact dwk h01234 (Wk.en (⟨(ai rfl (ai rfl (ai rfl (ai rfl trivial)))),(ai rfl (ai rfl (ai rfl (ai rfl (ai rfl (ai rfl (ai rfl (ai rfl (ai rfl trivial))))))))),rfl⟩))
  ·(repeat' ((conv=>whnf);first|refine QB ?_|intro x hx hu|intro h|refine Spp.mk ?_ ?_))
   exact dwk h01235 (Wk.en (⟨(ai rfl (ai rfl (ai rfl (ai rfl trivial)))),(ai rfl (ai rfl (ai rfl (ai rfl (ai rfl (ai rfl (ai rfl (ai rfl (ai rfl trivial))))))))),rfl⟩))
  ·(repeat' ((conv=>whnf);first|refine QB ?_|intro x hx hu|intro h|refine Spp.mk ?_ ?_))
   exact dwk h01236 (Wk.ren r9 (ai rfl (ai rfl (ai rfl (ai rfl trivial)))) (ai rfl (ai rfl (ai rfl (ai rfl (ai rfl (ai rfl (ai rfl (ai rfl (ai rfl (ai rfl trivial)))))))))) rfl rfl)
  ·(repeat' ((conv=>whnf);first|refine QB ?_|intro x hx hu|intro h|refine Spp.mk ?_ ?_))
   exact dwk h01237 (Wk.ren r10 (ai rfl (ai rfl (ai rfl (ai rfl trivial)))) (ai rfl (ai rfl (ai rfl (ai rfl (ai rfl (ai rfl (ai rfl (ai rfl (ai rfl (ai rfl trivial)))))))))) rfl rfl)
 have h01267:QI Tryz.prog ti 92 ZR [0,1,2,6,7] (seS b bad d T M [(0,.ptr 0 0),(3,.ptr 8 0),(21,.tup [.d (.it .i64 (bst t)),.d (.bl (smB t))]),(4,.ptr 9 0),(5,.ptr 10 0)] [(9,.cells 1 [.d (.it .i64 0)]),(10,.cells 1 [.d (.bl false)])]) K:=by
  refine QI.alt QA [3] (by decide+kernel) ?_
  unfold seS
  refine Br.mk ?_ trivial
  ·(repeat' ((conv=>whnf);first|refine QB ?_|intro x hx hu|intro h|refine Spp.mk ?_ ?_))
   exact dwk h012367 (Wk.en (⟨(ai rfl (ai rfl (ai rfl (ai rfl (ai rfl trivial))))),(ai rfl (ai rfl (ai rfl (ai rfl (ai rfl (ai rfl (ai rfl (ai rfl (ai rfl (ai rfl (ai rfl trivial))))))))))),rfl⟩))
 have h0126:QI Tryz.prog ti 92 ZR [0,1,2,6] (seS b bad d T M [(0,.ptr 0 0),(3,.ptr 8 0),(21,.tup [.d (.it .i64 (bst t)),.d (.bl (smB t))]),(4,.ptr 9 0)] [(9,.cells 1 [.d (.it .i64 0)])]) K:=by
  refine QI.alt QA [3,7] (by decide+kernel) ?_
  unfold seS
  refine Br.mk ?_ (Br.mk ?_ trivial)
  ·(repeat' ((conv=>whnf);first|refine QB ?_|intro x hx hu|intro h|refine Spp.mk ?_ ?_))
   exact dwk h01236 (Wk.en (⟨(ai rfl (ai rfl (ai rfl (ai rfl trivial)))),(ai rfl (ai rfl (ai rfl (ai rfl (ai rfl (ai rfl (ai rfl (ai rfl (ai rfl (ai rfl trivial)))))))))),rfl⟩))
  ·(repeat' ((conv=>whnf);first|refine QB ?_|intro x hx hu|intro h|refine Spp.mk ?_ ?_))
   exact dwk h01267 (Wk.ren r10 (ai rfl (ai rfl (ai rfl (ai rfl (ai rfl trivial))))) (ai rfl (ai rfl (ai rfl (ai rfl (ai rfl (ai rfl (ai rfl (ai rfl (ai rfl (ai rfl (ai rfl trivial))))))))))) rfl rfl)
 have h0127:QI Tryz.prog ti 92 ZR [0,1,2,7] (seS b bad d T M [(0,.ptr 0 0),(3,.ptr 8 0),(21,.tup [.d (.it .i64 (bst t)),.d (.bl (smB t))]),(5,.ptr 10 0)] [(10,.cells 1 [.d (.bl false)])]) K:=by
  refine QI.alt QA [3,6] (by decide+kernel) ?_
  unfold seS
  refine Br.mk ?_ (Br.mk ?_ trivial)
  ·(repeat' ((conv=>whnf);first|refine QB ?_|intro x hx hu|intro h|refine Spp.mk ?_ ?_))
   exact dwk h01237 (Wk.en (⟨(ai rfl (ai rfl (ai rfl (ai rfl trivial)))),(ai rfl (ai rfl (ai rfl (ai rfl (ai rfl (ai rfl (ai rfl (ai rfl (ai rfl (ai rfl trivial)))))))))),rfl⟩))
  ·(repeat' ((conv=>whnf);first|refine QB ?_|intro x hx hu|intro h|refine Spp.mk ?_ ?_))
   exact dwk h01267 (Wk.ren r9 (ai rfl (ai rfl (ai rfl (ai rfl (ai rfl trivial))))) (ai rfl (ai rfl (ai rfl (ai rfl (ai rfl (ai rfl (ai rfl (ai rfl (ai rfl (ai rfl (ai rfl trivial))))))))))) rfl rfl)
 have h012:QI Tryz.prog ti 92 ZR [0,1,2] (seS b bad d T M [(0,.ptr 0 0),(3,.ptr 8 0),(21,.tup [.d (.it .i64 (bst t)),.d (.bl (smB t))])] []) K:=by
  refine QI.alt QA [3,6,7] (by decide+kernel) ?_
  unfold seS
  refine Br.mk ?_ (Br.mk ?_ (Br.mk ?_ trivial))
  ·(repeat' ((conv=>whnf);first|refine QB ?_|intro x hx hu|intro h|refine Spp.mk ?_ ?_))
   exact dwk h0123 (Wk.en (⟨(ai rfl (ai rfl (ai rfl trivial))),(ai rfl (ai rfl (ai rfl (ai rfl (ai rfl (ai rfl (ai rfl (ai rfl (ai rfl trivial))))))))),rfl⟩))
  ·(repeat' ((conv=>whnf);first|refine QB ?_|intro x hx hu|intro h|refine Spp.mk ?_ ?_))
   exact dwk h0126 (Wk.ren r9 (ai rfl (ai rfl (ai rfl (ai rfl trivial)))) (ai rfl (ai rfl (ai rfl (ai rfl (ai rfl (ai rfl (ai rfl (ai rfl (ai rfl (ai rfl trivial)))))))))) rfl rfl)
  ·(repeat' ((conv=>whnf);first|refine QB ?_|intro x hx hu|intro h|refine Spp.mk ?_ ?_))
   exact dwk h0127 (Wk.ren r10 (ai rfl (ai rfl (ai rfl (ai rfl trivial)))) (ai rfl (ai rfl (ai rfl (ai rfl (ai rfl (ai rfl (ai rfl (ai rfl (ai rfl (ai rfl trivial)))))))))) rfl rfl)
 have h0167:QI Tryz.prog ti 92 ZR [0,1,6,7] (seS b bad d T M [(0,.ptr 0 0),(3,.ptr 8 0),(19,.ts 36 (d.wait.map Qx) 1),(20,.mp 5),(4,.ptr 9 0),(5,.ptr 10 0)] [(9,.cells 1 [.d (.it .i64 0)]),(10,.cells 1 [.d (.bl false)])]) K:=by
  refine QI.alt QA [2] (by decide+kernel) ?_
  unfold seS
  refine Br.mk ?_ trivial
  ·(repeat' ((conv=>whnf);first|refine CallI.hp hT [5,8] ?_|refine QB ?_|intro x hx hu|intro h|refine Spp.mk ?_ ?_))
   exact dwk h01267 (Wk.en (⟨(ai rfl (ai rfl (ai rfl (ai rfl (ai rfl trivial))))),(ai rfl (ai rfl (ai rfl (ai rfl (ai rfl (ai rfl (ai rfl (ai rfl (ai rfl (ai rfl (ai rfl trivial))))))))))),rfl⟩))
 have h016:QI Tryz.prog ti 92 ZR [0,1,6] (seS b bad d T M [(0,.ptr 0 0),(3,.ptr 8 0),(19,.ts 36 (d.wait.map Qx) 1),(20,.mp 5),(4,.ptr 9 0)] [(9,.cells 1 [.d (.it .i64 0)])]) K:=by
  refine QI.alt QA [2,7] (by decide+kernel) ?_
  unfold seS
  refine Br.mk ?_ (Br.mk ?_ trivial)
  ·(repeat' ((conv=>whnf);first|refine CallI.hp hT [5,8] ?_|refine QB ?_|intro x hx hu|intro h|refine Spp.mk ?_ ?_))
   exact dwk h0126 (Wk.en (⟨(ai rfl (ai rfl (ai rfl (ai rfl trivial)))),(ai rfl (ai rfl (ai rfl (ai rfl (ai rfl (ai rfl (ai rfl (ai rfl (ai rfl (ai rfl trivial)))))))))),rfl⟩))
  ·(repeat' ((conv=>whnf);first|refine QB ?_|intro x hx hu|intro h|refine Spp.mk ?_ ?_))
   exact dwk h0167 (Wk.ren r10 (ai rfl (ai rfl (ai rfl (ai rfl (ai rfl (ai rfl trivial)))))) (ai rfl (ai rfl (ai rfl (ai rfl (ai rfl (ai rfl (ai rfl (ai rfl (ai rfl (ai rfl (ai rfl trivial))))))))))) rfl rfl)
 have h017:QI Tryz.prog ti 92 ZR [0,1,7] (seS b bad d T M [(0,.ptr 0 0),(3,.ptr 8 0),(19,.ts 36 (d.wait.map Qx) 1),(20,.mp 5),(5,.ptr 10 0)] [(10,.cells 1 [.d (.bl false)])]) K:=by
  refine QI.alt QA [2,6] (by decide+kernel) ?_
  unfold seS
  refine Br.mk ?_ (Br.mk ?_ trivial)
  ·(repeat' ((conv=>whnf);first|refine CallI.hp hT [5,8] ?_|refine QB ?_|intro x hx hu|intro h|refine Spp.mk ?_ ?_))
   exact dwk h0127 (Wk.en (⟨(ai rfl (ai rfl (ai rfl (ai rfl trivial)))),(ai rfl (ai rfl (ai rfl (ai rfl (ai rfl (ai rfl (ai rfl (ai rfl (ai rfl (ai rfl trivial)))))))))),rfl⟩))
  ·(repeat' ((conv=>whnf);first|refine QB ?_|intro x hx hu|intro h|refine Spp.mk ?_ ?_))
   exact dwk h0167 (Wk.ren r9 (ai rfl (ai rfl (ai rfl (ai rfl (ai rfl (ai rfl trivial)))))) (ai rfl (ai rfl (ai rfl (ai rfl (ai rfl (ai rfl (ai rfl (ai rfl (ai rfl (ai rfl (ai rfl trivial))))))))))) rfl rfl)
 have h01:QI Tryz.prog ti 92 ZR [0,1] (seS b bad d T M [(0,.ptr 0 0),(3,.ptr 8 0),(19,.ts 36 (d.wait.map Qx) 1),(20,.mp 5)] []) K:=by
  refine QI.alt QA [2,6,7] (by decide+kernel) ?_
  unfold seS
  refine Br.mk ?_ (Br.mk ?_ (Br.mk ?_ trivial))
  ·(repeat' ((conv=>whnf);first|refine CallI.hp hT [5,8] ?_|refine QB ?_|intro x hx hu|intro h|refine Spp.mk ?_ ?_))
   exact dwk h012 (Wk.en (⟨(ai rfl (ai rfl (ai rfl trivial))),(ai rfl (ai rfl (ai rfl (ai rfl (ai rfl (ai rfl (ai rfl (ai rfl (ai rfl trivial))))))))),rfl⟩))
  ·(repeat' ((conv=>whnf);first|refine QB ?_|intro x hx hu|intro h|refine Spp.mk ?_ ?_))
   exact dwk h016 (Wk.ren r9 (ai rfl (ai rfl (ai rfl (ai rfl (ai rfl trivial))))) (ai rfl (ai rfl (ai rfl (ai rfl (ai rfl (ai rfl (ai rfl (ai rfl (ai rfl (ai rfl trivial)))))))))) rfl rfl)
  ·(repeat' ((conv=>whnf);first|refine QB ?_|intro x hx hu|intro h|refine Spp.mk ?_ ?_))
   exact dwk h017 (Wk.ren r10 (ai rfl (ai rfl (ai rfl (ai rfl (ai rfl trivial))))) (ai rfl (ai rfl (ai rfl (ai rfl (ai rfl (ai rfl (ai rfl (ai rfl (ai rfl (ai rfl trivial)))))))))) rfl rfl)
 have h067:QI Tryz.prog ti 92 ZR [0,6,7] (seS b bad d T M [(0,.ptr 0 0),(3,.ptr 8 0),(19,.ts 36 (d.wait.map Qx) 1),(4,.ptr 9 0),(5,.ptr 10 0)] [(9,.cells 1 [.d (.it .i64 0)]),(10,.cells 1 [.d (.bl false)])]) K:=by
  refine QI.alt QA [1] (by decide+kernel) ?_
  unfold seS
  refine Br.mk ?_ trivial
  ·(repeat' ((conv=>whnf);first|refine QB ?_|intro x hx hu|intro h|refine Spp.mk ?_ ?_))
   exact dwk h0167 (Wk.en (⟨(ai rfl (ai rfl (ai rfl (ai rfl (ai rfl (ai rfl trivial)))))),(ai rfl (ai rfl (ai rfl (ai rfl (ai rfl (ai rfl (ai rfl (ai rfl (ai rfl (ai rfl (ai rfl trivial))))))))))),rfl⟩))
 have h06:QI Tryz.prog ti 92 ZR [0,6] (seS b bad d T M [(0,.ptr 0 0),(3,.ptr 8 0),(19,.ts 36 (d.wait.map Qx) 1),(4,.ptr 9 0)] [(9,.cells 1 [.d (.it .i64 0)])]) K:=by
  refine QI.alt QA [1,7] (by decide+kernel) ?_
  unfold seS
  refine Br.mk ?_ (Br.mk ?_ trivial)
  ·(repeat' ((conv=>whnf);first|refine QB ?_|intro x hx hu|intro h|refine Spp.mk ?_ ?_))
   exact dwk h016 (Wk.en (⟨(ai rfl (ai rfl (ai rfl (ai rfl (ai rfl trivial))))),(ai rfl (ai rfl (ai rfl (ai rfl (ai rfl (ai rfl (ai rfl (ai rfl (ai rfl (ai rfl trivial)))))))))),rfl⟩))
  ·(repeat' ((conv=>whnf);first|refine QB ?_|intro x hx hu|intro h|refine Spp.mk ?_ ?_))
   exact dwk h067 (Wk.ren r10 (ai rfl (ai rfl (ai rfl (ai rfl (ai rfl trivial))))) (ai rfl (ai rfl (ai rfl (ai rfl (ai rfl (ai rfl (ai rfl (ai rfl (ai rfl (ai rfl (ai rfl trivial))))))))))) rfl rfl)
 have h07:QI Tryz.prog ti 92 ZR [0,7] (seS b bad d T M [(0,.ptr 0 0),(3,.ptr 8 0),(19,.ts 36 (d.wait.map Qx) 1),(5,.ptr 10 0)] [(10,.cells 1 [.d (.bl false)])]) K:=by
  refine QI.alt QA [1,6] (by decide+kernel) ?_
  unfold seS
  refine Br.mk ?_ (Br.mk ?_ trivial)
  ·(repeat' ((conv=>whnf);first|refine QB ?_|intro x hx hu|intro h|refine Spp.mk ?_ ?_))
   exact dwk h017 (Wk.en (⟨(ai rfl (ai rfl (ai rfl (ai rfl (ai rfl trivial))))),(ai rfl (ai rfl (ai rfl (ai rfl (ai rfl (ai rfl (ai rfl (ai rfl (ai rfl (ai rfl trivial)))))))))),rfl⟩))
  ·(repeat' ((conv=>whnf);first|refine QB ?_|intro x hx hu|intro h|refine Spp.mk ?_ ?_))
   exact dwk h067 (Wk.ren r9 (ai rfl (ai rfl (ai rfl (ai rfl (ai rfl trivial))))) (ai rfl (ai rfl (ai rfl (ai rfl (ai rfl (ai rfl (ai rfl (ai rfl (ai rfl (ai rfl (ai rfl trivial))))))))))) rfl rfl)
 have h0:QI Tryz.prog ti 92 ZR [0] (seS b bad d T M [(0,.ptr 0 0),(3,.ptr 8 0),(19,.ts 36 (d.wait.map Qx) 1)] []) K:=by
  refine QI.alt QA [1,6,7] (by decide+kernel) ?_
  unfold seS
  refine Br.mk ?_ (Br.mk ?_ (Br.mk ?_ trivial))
  ·(repeat' ((conv=>whnf);first|refine QB ?_|intro x hx hu|intro h|refine Spp.mk ?_ ?_))
   exact dwk h01 (Wk.en (⟨(ai rfl (ai rfl (ai rfl (ai rfl trivial)))),(ai rfl (ai rfl (ai rfl (ai rfl (ai rfl (ai rfl (ai rfl (ai rfl (ai rfl trivial))))))))),rfl⟩))
  ·(repeat' ((conv=>whnf);first|refine QB ?_|intro x hx hu|intro h|refine Spp.mk ?_ ?_))
   exact dwk h06 (Wk.ren r9 (ai rfl (ai rfl (ai rfl (ai rfl trivial)))) (ai rfl (ai rfl (ai rfl (ai rfl (ai rfl (ai rfl (ai rfl (ai rfl (ai rfl (ai rfl trivial)))))))))) rfl rfl)
  ·(repeat' ((conv=>whnf);first|refine QB ?_|intro x hx hu|intro h|refine Spp.mk ?_ ?_))
   exact dwk h07 (Wk.ren r10 (ai rfl (ai rfl (ai rfl (ai rfl trivial)))) (ai rfl (ai rfl (ai rfl (ai rfl (ai rfl (ai rfl (ai rfl (ai rfl (ai rfl (ai rfl trivial)))))))))) rfl rfl)
 have h167:QI Tryz.prog ti 92 ZR [1,6,7] (seS b bad d T M [(0,.ptr 0 0),(3,.ptr 8 0),(18,.ptr 0 3),(20,.mp 5),(4,.ptr 9 0),(5,.ptr 10 0)] [(9,.cells 1 [.d (.it .i64 0)]),(10,.cells 1 [.d (.bl false)])]) K:=by
  refine QI.alt QA [0] (by decide+kernel) ?_
  unfold seS
  refine Br.mk ?_ trivial
  ·(repeat' ((conv=>whnf);first|refine QB ?_|intro x hx hu|intro h|refine Spp.mk ?_ ?_))
   exact dwk h0167 (Wk.en (⟨(ai rfl (ai rfl (ai rfl (ai rfl (ai rfl (ai rfl trivial)))))),(ai rfl (ai rfl (ai rfl (ai rfl (ai rfl (ai rfl (ai rfl (ai rfl (ai rfl (ai rfl (ai rfl trivial))))))))))),rfl⟩))
 have h16:QI Tryz.prog ti 92 ZR [1,6] (seS b bad d T M [(0,.ptr 0 0),(3,.ptr 8 0),(18,.ptr 0 3),(20,.mp 5),(4,.ptr 9 0)] [(9,.cells 1 [.d (.it .i64 0)])]) K:=by
  refine QI.alt QA [0,7] (by decide+kernel) ?_
  unfold seS
  refine Br.mk ?_ (Br.mk ?_ trivial)
  ·(repeat' ((conv=>whnf);first|refine QB ?_|intro x hx hu|intro h|refine Spp.mk ?_ ?_))
   exact dwk h016 (Wk.en (⟨(ai rfl (ai rfl (ai rfl (ai rfl (ai rfl trivial))))),(ai rfl (ai rfl (ai rfl (ai rfl (ai rfl (ai rfl (ai rfl (ai rfl (ai rfl (ai rfl trivial)))))))))),rfl⟩))
  ·(repeat' ((conv=>whnf);first|refine QB ?_|intro x hx hu|intro h|refine Spp.mk ?_ ?_))
   exact dwk h167 (Wk.ren r10 (ai rfl (ai rfl (ai rfl (ai rfl (ai rfl (ai rfl trivial)))))) (ai rfl (ai rfl (ai rfl (ai rfl (ai rfl (ai rfl (ai rfl (ai rfl (ai rfl (ai rfl (ai rfl trivial))))))))))) rfl rfl)
 have h17:QI Tryz.prog ti 92 ZR [1,7] (seS b bad d T M [(0,.ptr 0 0),(3,.ptr 8 0),(18,.ptr 0 3),(20,.mp 5),(5,.ptr 10 0)] [(10,.cells 1 [.d (.bl false)])]) K:=by
  refine QI.alt QA [0,6] (by decide+kernel) ?_
  unfold seS
  refine Br.mk ?_ (Br.mk ?_ trivial)
  ·(repeat' ((conv=>whnf);first|refine QB ?_|intro x hx hu|intro h|refine Spp.mk ?_ ?_))
   exact dwk h017 (Wk.en (⟨(ai rfl (ai rfl (ai rfl (ai rfl (ai rfl trivial))))),(ai rfl (ai rfl (ai rfl (ai rfl (ai rfl (ai rfl (ai rfl (ai rfl (ai rfl (ai rfl trivial)))))))))),rfl⟩))
  ·(repeat' ((conv=>whnf);first|refine QB ?_|intro x hx hu|intro h|refine Spp.mk ?_ ?_))
   exact dwk h167 (Wk.ren r9 (ai rfl (ai rfl (ai rfl (ai rfl (ai rfl (ai rfl trivial)))))) (ai rfl (ai rfl (ai rfl (ai rfl (ai rfl (ai rfl (ai rfl (ai rfl (ai rfl (ai rfl (ai rfl trivial))))))))))) rfl rfl)
 have h1:QI Tryz.prog ti 92 ZR [1] (seS b bad d T M [(0,.ptr 0 0),(3,.ptr 8 0),(18,.ptr 0 3),(20,.mp 5)] []) K:=by
  refine QI.alt QA [0,6,7] (by decide+kernel) ?_
  unfold seS
  refine Br.mk ?_ (Br.mk ?_ (Br.mk ?_ trivial))
  ·(repeat' ((conv=>whnf);first|refine QB ?_|intro x hx hu|intro h|refine Spp.mk ?_ ?_))
   exact dwk h01 (Wk.en (⟨(ai rfl (ai rfl (ai rfl (ai rfl trivial)))),(ai rfl (ai rfl (ai rfl (ai rfl (ai rfl (ai rfl (ai rfl (ai rfl (ai rfl trivial))))))))),rfl⟩))
  ·(repeat' ((conv=>whnf);first|refine QB ?_|intro x hx hu|intro h|refine Spp.mk ?_ ?_))
   exact dwk h16 (Wk.ren r9 (ai rfl (ai rfl (ai rfl (ai rfl (ai rfl trivial))))) (ai rfl (ai rfl (ai rfl (ai rfl (ai rfl (ai rfl (ai rfl (ai rfl (ai rfl (ai rfl trivial)))))))))) rfl rfl)
  ·(repeat' ((conv=>whnf);first|refine QB ?_|intro x hx hu|intro h|refine Spp.mk ?_ ?_))
   exact dwk h17 (Wk.ren r10 (ai rfl (ai rfl (ai rfl (ai rfl (ai rfl trivial))))) (ai rfl (ai rfl (ai rfl (ai rfl (ai rfl (ai rfl (ai rfl (ai rfl (ai rfl (ai rfl trivial)))))))))) rfl rfl)
 have h67:QI Tryz.prog ti 92 ZR [6,7] (seS b bad d T M [(0,.ptr 0 0),(3,.ptr 8 0),(18,.ptr 0 3),(4,.ptr 9 0),(5,.ptr 10 0)] [(9,.cells 1 [.d (.it .i64 0)]),(10,.cells 1 [.d (.bl false)])]) K:=by
  refine QI.alt QA [0,1] (by decide+kernel) ?_
  unfold seS
  refine Br.mk ?_ (Br.mk ?_ trivial)
  ·(repeat' ((conv=>whnf);first|refine QB ?_|intro x hx hu|intro h|refine Spp.mk ?_ ?_))
   exact dwk h067 (Wk.en (⟨(ai rfl (ai rfl (ai rfl (ai rfl (ai rfl trivial))))),(ai rfl (ai rfl (ai rfl (ai rfl (ai rfl (ai rfl (ai rfl (ai rfl (ai rfl (ai rfl (ai rfl trivial))))))))))),rfl⟩))
  ·(repeat' ((conv=>whnf);first|refine QB ?_|intro x hx hu|intro h|refine Spp.mk ?_ ?_))
   exact dwk h167 (Wk.en (⟨(ai rfl (ai rfl (ai rfl (ai rfl (ai rfl (ai rfl trivial)))))),(ai rfl (ai rfl (ai rfl (ai rfl (ai rfl (ai rfl (ai rfl (ai rfl (ai rfl (ai rfl (ai rfl trivial))))))))))),rfl⟩))
 have h6:QI Tryz.prog ti 92 ZR [6] (seS b bad d T M [(0,.ptr 0 0),(3,.ptr 8 0),(18,.ptr 0 3),(4,.ptr 9 0)] [(9,.cells 1 [.d (.it .i64 0)])]) K:=by
  refine QI.alt QA [0,1,7] (by decide+kernel) ?_
  unfold seS
  refine Br.mk ?_ (Br.mk ?_ (Br.mk ?_ trivial))
  ·(repeat' ((conv=>whnf);first|refine QB ?_|intro x hx hu|intro h|refine Spp.mk ?_ ?_))
   exact dwk h06 (Wk.en (⟨(ai rfl (ai rfl (ai rfl (ai rfl trivial)))),(ai rfl (ai rfl (ai rfl (ai rfl (ai rfl (ai rfl (ai rfl (ai rfl (ai rfl (ai rfl trivial)))))))))),rfl⟩))
  ·(repeat' ((conv=>whnf);first|refine QB ?_|intro x hx hu|intro h|refine Spp.mk ?_ ?_))
   exact dwk h16 (Wk.en (⟨(ai rfl (ai rfl (ai rfl (ai rfl (ai rfl trivial))))),(ai rfl (ai rfl (ai rfl (ai rfl (ai rfl (ai rfl (ai rfl (ai rfl (ai rfl (ai rfl trivial)))))))))),rfl⟩))
  ·(repeat' ((conv=>whnf);first|refine QB ?_|intro x hx hu|intro h|refine Spp.mk ?_ ?_))
   exact dwk h67 (Wk.ren r10 (ai rfl (ai rfl (ai rfl (ai rfl (ai rfl trivial))))) (ai rfl (ai rfl (ai rfl (ai rfl (ai rfl (ai rfl (ai rfl (ai rfl (ai rfl (ai rfl (ai rfl trivial))))))))))) rfl rfl)
 have h7:QI Tryz.prog ti 92 ZR [7] (seS b bad d T M [(0,.ptr 0 0),(3,.ptr 8 0),(18,.ptr 0 3),(5,.ptr 10 0)] [(10,.cells 1 [.d (.bl false)])]) K:=by
  refine QI.alt QA [0,1,6] (by decide+kernel) ?_
  unfold seS
  refine Br.mk ?_ (Br.mk ?_ (Br.mk ?_ trivial))
  ·(repeat' ((conv=>whnf);first|refine QB ?_|intro x hx hu|intro h|refine Spp.mk ?_ ?_))
   exact dwk h07 (Wk.en (⟨(ai rfl (ai rfl (ai rfl (ai rfl trivial)))),(ai rfl (ai rfl (ai rfl (ai rfl (ai rfl (ai rfl (ai rfl (ai rfl (ai rfl (ai rfl trivial)))))))))),rfl⟩))
  ·(repeat' ((conv=>whnf);first|refine QB ?_|intro x hx hu|intro h|refine Spp.mk ?_ ?_))
   exact dwk h17 (Wk.en (⟨(ai rfl (ai rfl (ai rfl (ai rfl (ai rfl trivial))))),(ai rfl (ai rfl (ai rfl (ai rfl (ai rfl (ai rfl (ai rfl (ai rfl (ai rfl (ai rfl trivial)))))))))),rfl⟩))
  ·(repeat' ((conv=>whnf);first|refine QB ?_|intro x hx hu|intro h|refine Spp.mk ?_ ?_))
   exact dwk h67 (Wk.ren r9 (ai rfl (ai rfl (ai rfl (ai rfl (ai rfl trivial))))) (ai rfl (ai rfl (ai rfl (ai rfl (ai rfl (ai rfl (ai rfl (ai rfl (ai rfl (ai rfl (ai rfl trivial))))))))))) rfl rfl)
 have h:QI Tryz.prog ti 92 ZR [] (seS b bad d T M [(0,.ptr 0 0),(3,.ptr 8 0),(18,.ptr 0 3)] []) K:=by
  refine QI.alt QA [0,1,6,7] (by decide+kernel) ?_
  unfold seS
  refine Br.mk ?_ (Br.mk ?_ (Br.mk ?_ (Br.mk ?_ trivial)))
  ·(repeat' ((conv=>whnf);first|refine QB ?_|intro x hx hu|intro h|refine Spp.mk ?_ ?_))
   exact dwk h0 (Wk.en (⟨(ai rfl (ai rfl (ai rfl trivial))),(ai rfl (ai rfl (ai rfl (ai rfl (ai rfl (ai rfl (ai rfl (ai rfl (ai rfl trivial))))))))),rfl⟩))
  ·(repeat' ((conv=>whnf);first|refine QB ?_|intro x hx hu|intro h|refine Spp.mk ?_ ?_))
   exact dwk h1 (Wk.en (⟨(ai rfl (ai rfl (ai rfl (ai rfl trivial)))),(ai rfl (ai rfl (ai rfl (ai rfl (ai rfl (ai rfl (ai rfl (ai rfl (ai rfl trivial))))))))),rfl⟩))
  ·(repeat' ((conv=>whnf);first|refine QB ?_|intro x hx hu|intro h|refine Spp.mk ?_ ?_))
   exact dwk h6 (Wk.ren r9 (ai rfl (ai rfl (ai rfl (ai rfl trivial)))) (ai rfl (ai rfl (ai rfl (ai rfl (ai rfl (ai rfl (ai rfl (ai rfl (ai rfl (ai rfl trivial)))))))))) rfl rfl)
  ·(repeat' ((conv=>whnf);first|refine QB ?_|intro x hx hu|intro h|refine Spp.mk ?_ ?_))
   exact dwk h7 (Wk.ren r10 (ai rfl (ai rfl (ai rfl (ai rfl trivial)))) (ai rfl (ai rfl (ai rfl (ai rfl (ai rfl (ai rfl (ai rfl (ai rfl (ai rfl (ai rfl trivial)))))))))) rfl rfl)
 exact h
noncomputable def QP5:List Oper:=QQk 1 (Go.Sy.bd Tryz.f168)
def seM(b:Bool)(bad:List Int)(d:Dk)(T:Nat→Nat)(M:List (List D×D))(t:Option Int):S:=seS b bad d T M [(0,.ptr 0 0),(3,.ptr 8 0),(4,.ptr 9 0),(5,.ptr 10 0)] [(9,.cells 1 [.d (.it .i64 (bst t))]),(10,.cells 1 [.d (.bl (smB t))])]
theorem seD(b:Bool)(bad:List Int)(d:Dk)(T:Nat→Nat)(M:List (List D×D))(t:Option Int)
  (hT:FnH Tryz.prog 217 [.d (.fs 36 (d.wait.map Qx)),.mp 0] [(0,.mp true true tpT M),(1,.cells 1 [.mp 0])] 2 [1] (.tup [.d (.it .i64 (bst t)),.d (.bl (smB t))]) [(0,.mp true true tpT M),(1,.cells 1 [.mp 0])] 2) {K:S→Prop}
  (hK:K (seM b bad d T M t)):QX Tryz.prog ti 92 1 QP5 (seS b bad d T M [(0,.ptr 0 0),(3,.ptr 8 0)] []) K:=by
 refine QX.mid (seM b bad d T M t) ?_ hK
 refine QX.of_A mixed (Q2.hoistW QA 0 (by decide+kernel) ?_)
 conv=>whnf
 refine Q2.hoistW QA 0 (by decide+kernel) ?_
 conv=>whnf
 refine Q2.hoistW QA 0 (by decide+kernel) ?_
 conv=>whnf
 exact .of_D (dwk (seR b bad d T M t hT (fun σ h=>h)) (Wk.en (⟨(ai rfl (ai rfl (ai rfl trivial))),(ai rfl (ai rfl (ai rfl (ai rfl (ai rfl (ai rfl (ai rfl (ai rfl (ai rfl trivial))))))))),rfl⟩)))
def seY(t:Option Int):List (Nat×Ob):=[(9,.cells 1 [.d (.it .i64 (bst t))]),(10,.cells 1 [.d (.bl (smB t))])]
def seF:AV:= .fn (.func 218) [] [.ptr 8 0,.ptr 10 0,.ptr 9 0]
def seA(b:Bool)(bad:List Int)(d:Dk)(T:Nat→Nat)(M:List (List D×D))(t:Option Int)(sf:List (List D))(LM:List (List D×D))(k:Nat):S:=⟨[(0,.ptr 0 0),(6,.mp 12),(7,seF),(29,.d (.fs 36 (d.wait.map Qx))),(30,.d (.it .i64 (d.wait.length:Nat))),(31,.d (.it .i64 (k:Nat)))],seO b bad d sf++seX T M++seY t++[(12,.mp true false [.it .i64 0] LM)],13⟩
def seB(b:Bool)(bad:List Int)(d:Dk)(T:Nat→Nat)(M:List (List D×D))(t:Option Int)(sf:List (List D))(LM:List (List D×D))(L:List (List D))(k:Nat):S:=⟨[(0,.ptr 0 0),(6,.mp 12),(7,seF),(10,.ts 36 L 13),(56,.d (.fs 36 (d.wait.map Qx))),(57,.d (.it .i64 (d.wait.length:Nat))),(58,.d (.it .i64 (k:Nat)))],seO b bad d sf++seX T M++seY t++[(12,.mp true false [.it .i64 0] LM),(13,.tail 49 true)],14⟩
theorem QOY{P:Program}{ti:Nat→Option Ty}{N:Nat}{ops:List Oper}{σ:S}{K:S→Prop}(h:QX P ti N 1 ops σ K):QX P ti N 1 ops σ K:=h
theorem QLC{m:List (List UInt8)}{w:Wr}(h:0≤w.a∧w.a<m.length):(m.map QF).take w.a.toNat++[QF w.s]++(m.map QF).drop (w.a.toNat+1)=(Xz m w).map QF:=by
 unfold Xz
 rw[if_pos h,Wi,ku,if_pos (by rw[ze];omega)]
 simp
theorem QLD(m:List (List UInt8))(l:List Wr)(w:Wr):Qi m (l++[w])=Xz (Qi m l) w:=by unfold Qi;rw[ua];rfl
def d1U(j:Nat):Nat:=bif Nat.beq j 1 then 13 else j
def seP(b:Bool)(bad:List Int)(d:Dk)(sf lw:List (List D)):List (Nat×Ob):=[(0,.cells 6 [.mp 3,.d (.it .i64 d.nx),.vx 32 4 0 d.safe.length,.ts 36 lw 1,.ts 38 d.log 2,.d (.it .i64 d.ep)]),(1,.tail 49 true),(2,.tail 110 true),(3,.mp b false [.it .i64 0] (QAf bad)),(4,.vec 37 32 sf false)]
def seZ(b:Bool)(bad:List Int)(d:Dk)(T:Nat→Nat)(M:List (List D×D))(sf lw:List (List D)):S:=⟨[],seP b bad d sf lw++[(5,.mp true true tpT M)]++Qn 6 [0] T,14⟩
theorem QOZ(b:Bool)(bad:List Int)(d:Dk)(m:Wr→Bool)(lw:List Wr):Z6 b bad ⟨d.nx,Qi d.safe (d.wait.filter m),lw,d.log,d.ep⟩=seP b bad d ((Qi d.safe (d.wait.filter m)).map QF) (lw.map Qx):=by
 unfold Z6 seP
 rw[show(Qi d.safe (d.wait.filter m)).length=d.safe.length from X4 _ _]
theorem QJg(b:Bool)(bad:List Int)(d:Dk)(tags:List (Int×Int))(hb:DB d 100000)(hw:∀w∈d.wait,w.s.length=32)(hr:InR d):
  FnH Tryz.prog 168 [.ptr 0 0,.mp 5] (Z6 b bad d++[(5,.mp true true tpT (mpT tags))]) 6 [0] (.tup [])
   (Z6 b bad ⟨d.nx,Qi d.safe (d.wait.filter (QAG tags (Xg tags d.wait))),XB (QAG tags (Xg tags d.wait)) d.wait,d.log,d.ep⟩++[(5,.mp true true tpT (mpT tags))]) 6:=by
 have hwl:(d.wait.map Qx).length=d.wait.length:=ze ..
 have hbw:=hb.w
 have hT:=QOP tags d.wait hw (by omega)
 have hMd:=fun w=>QMm tags (Xg tags d.wait) w
 generalize Xg tags d.wait=t at*
 generalize hM:mpT tags=M at*
 generalize hm:QAG tags t=m at*
 have e0:Z6 b bad d=seO b bad d (d.safe.map QF):=rfl
 rw[e0,QOZ]
 refine QR QQ6 fun T=>?_
 (repeat' ((conv=>whnf);first|((with_reducible refine QOY ?_);refine QX.wk (τ:=seS b bad d T M [(0,.ptr 0 0),(3,.ptr 8 0)] []) (Wk.en (⟨(ai rfl (ai rfl trivial)),(ai rfl (ai rfl (ai rfl (ai rfl (ai rfl (ai rfl (ai rfl (ai rfl (ai rfl trivial))))))))),rfl⟩)) (seD b bad d T M t hT ?_))|((with_reducible refine Q8 ?_);refine OpX.makeMap false [.it .i64 0] rfl rfl ?_)|refine QB ?_|intro x hx hu|intro h|refine Spp.mk ?_ ?_))
 conv=>whnf
 refine Qs QA (fun k:Nat=>k≤d.wait.length) (fun k=>seA b bad d T M t ((Qi d.safe ((d.wait.take k).filter m)).map QF) (Yo m (d.wait.take k) 0 []) k) (fun k=>d.wait.length-k) 0 (yf _)
  (Wk.vwL (ai (Vw.eq rfl) (ai (Vw.eq rfl) (ai (Vw.eq rfl) (ai (Vw.ts' rfl) (ai (Vw.eq (QW (by rw[hwl]))) (ai (Vw.eq rfl) trivial)))))) (ai (VwO.same _) (ai (VwO.same _) (ai (VwO.same _) (ai (VwO.same _) (ai (VwO.same _) (ai (VwO.same _) (ai (VwO.same _) (ai (VwO.same _) (ai (VwO.same _) (ai (VwO.same _) (ai (VwO.same _) (ai (VwO.same _) trivial)))))))))))) rfl) ?_
 ·intro k hk
  by_cases hkl:k<d.wait.length
  ·obtain ⟨w,hx⟩:=ZD hkl
   have hws:=hw w (yi hx)
   have hwr:=hr w (yi hx)
   have hmd:=hMd w hws
   have hf:(d.wait.take (k+1)).filter m=(d.wait.take k).filter m++if m w=true then [w]else []:=by
    rw[Q3 hx,vr]
    congr 1
    cases hmw:m w<;>simp[hmw]
   have hL:Yo m (d.wait.take (k+1)) 0 []=if m w=true then JK (Yo m (d.wait.take k) 0 []) [.it .i64 w.a] (.it .i64 (k:Nat))else Yo m (d.wait.take k) 0 []:=by
    rw[Q3 hx,QBK,z2,vv (by omega),yx]
   have hto:∀ {N:Nat} {σ:S} {sf:List (List D)} {LM:List (List D×D)},(Qi d.safe ((d.wait.take (k+1)).filter m)).map QF=sf→Yo m (d.wait.take (k+1)) 0 []=LM→Wk N σ (seA b bad d T M t sf LM (k+1))→Wk N σ (seA b bad d T M t ((Qi d.safe ((d.wait.take (k+1)).filter m)).map QF) (Yo m (d.wait.take (k+1)) 0 []) (k+1)):=fun h1 h2 q=>by rw[h1,h2];exact q
   have hpl:(Qi d.safe ((d.wait.take k).filter m)).length=d.safe.length:=X4 _ _
   generalize (d.wait.take k).filter m=ft at*
   generalize Yo m (d.wait.take k) 0 []=LM at*
   cases hmw:m w with
   |true=>
    rw[hmw]at hmd
    rw[if_pos hmw]at hf hL
    have hse:=QLC (m:=Qi d.safe ft) (w:=w) (by rw[hpl];exact hwr)
    have h1:(Qi d.safe ((d.wait.take (k+1)).filter m)).map QF=((Qi d.safe ft).map QF).take (0+w.a.toNat)++[QF w.s]++((Qi d.safe ft).map QF).drop (0+w.a.toNat+1):=by rw[yx,hf,QLD,←hse]
    clear hse hf
    generalize hsf:(Qi d.safe ft).map QF=sf at*
    have hsl:sf.length=d.safe.length:=by rw[←hsf,ze,hpl]
    clear hsf
    obtain⟨wa,wS,wk,wi,we⟩:=w
    obtain⟨g,rfl⟩:=Xy hws
    dsimp only at h1 hL hwr
    unfold seA
    (repeat' ((conv=>whnf);first|((with_reducible refine Q8 ?_);refine OpX.mapUpdate (kx:= .it .i64 wa) (l:=LM) rfl rfl Tryz.underlying89 Tryz.underlying3 rfl rfl rfl rfl rfl rfl rfl ?_)|with_reducible refine ZY hx ?_|with_reducible refine AtA.mk' ?_|refine CallI.h hmd [5,8,9,10] ?_|refine QB ?_|intro x hx hu|intro h|refine Spp.mk ?_ ?_))
    all_goals first|(exfalso;omega)|skip
    exact⟨k+1,hkl,by first|omega|(dsimp only;omega),hto h1 hL (Wk.en (⟨ai rfl (ai rfl (ai rfl (ai rfl (ai rfl (ai (QW (by omega)) trivial))))),(ai rfl (ai rfl (ai rfl (ai rfl (ai rfl (ai rfl (ai rfl (ai rfl (ai rfl (ai rfl (ai rfl (ai rfl trivial)))))))))))),rfl⟩))⟩
   |false=>
    rw[hmw]at hmd
    rw[if_neg (by rw[hmw];decide)]at hf hL
    rw[y7]at hf
    have h1:(Qi d.safe ((d.wait.take (k+1)).filter m)).map QF=(Qi d.safe ft).map QF:=by rw[hf]
    clear hf
    generalize hsf:(Qi d.safe ft).map QF=sf at*
    clear hsf
    obtain⟨wa,wS,wk,wi,we⟩:=w
    obtain⟨g,rfl⟩:=Xy hws
    dsimp only at h1 hL hwr
    unfold seA
    (repeat' ((conv=>whnf);first|with_reducible refine ZY hx ?_|with_reducible refine AtA.mk' ?_|refine CallI.h hmd [5,8,9,10] ?_|refine QB ?_|intro x hx hu|intro h|refine Spp.mk ?_ ?_))
    all_goals first|(exfalso;omega)|skip
    exact⟨k+1,hkl,by first|omega|(dsimp only;omega),hto h1 hL (Wk.en (⟨ai rfl (ai rfl (ai rfl (ai rfl (ai rfl (ai (QW (by omega)) trivial))))),(ai rfl (ai rfl (ai rfl (ai rfl (ai rfl (ai rfl (ai rfl (ai rfl (ai rfl (ai rfl (ai rfl (ai rfl trivial)))))))))))),rfl⟩))⟩
  ·have hke:d.wait.take k=d.wait:=yd (by omega)
   rw[hke]
   have hlo:=QOO m d.wait
   have hall:=QFv m d.wait
   generalize hLM:Yo m d.wait 0 []=LM at*
   generalize (Qi d.safe (d.wait.filter m)).map QF=sf at*
   unfold seA
   (repeat' ((conv=>whnf);first|refine QB ?_|intro x hx hu|intro h|refine Spp.mk ?_ ?_))
   all_goals first|(exfalso;omega)|skip
   conv=>whnf
   refine Qs QA (fun k:Nat=>k≤d.wait.length) (fun k=>seB b bad d T M t sf LM ((QBL m d.wait k).map Qx) k) (fun k=>d.wait.length-k) 0 (yf _)
    (Wk.vwL (ai (Vw.eq rfl) (ai (Vw.eq rfl) (ai (Vw.eq rfl) (ai (Vw.eq rfl) (ai (Vw.ts' rfl) (ai (Vw.eq (QW (by rw[hwl]))) (ai (Vw.eq rfl) trivial))))))) (ai (VwO.same _) (ai (VwO.same _) (ai (VwO.same _) (ai (VwO.same _) (ai (VwO.same _) (ai (VwO.same _) (ai (VwO.same _) (ai (VwO.same _) (ai (VwO.same _) (ai (VwO.same _) (ai (VwO.same _) (ai (VwO.same _) (ai (VwO.same _) trivial))))))))))))) rfl) ?_
   intro k hk2
   by_cases hkl2:k<d.wait.length
   ·obtain ⟨w,hx⟩:=ZD hkl2
    have hws:=hw w (yi hx)
    have hmd:=hMd w hws
    obtain⟨kk,bb,hlk,hk3,hk4,hov⟩:=hlo k w hx
    have hsu:=QJX (m:=m) hx
    have hln:=QKw m d.wait k
    have hto:∀ {N:Nat} {σ:S} {L:List (List D)},(QBL m d.wait (k+1)).map Qx=L→Wk N σ (seB b bad d T M t sf LM L (k+1))→Wk N σ (seB b bad d T M t sf LM ((QBL m d.wait (k+1)).map Qx) (k+1)):=fun h q=>by rw[h];exact q
    generalize QBL m d.wait k=lf at*
    have hlf:(lf.map Qx).length=lf.length:=ze ..
    have hno:m w=true∨ovB m (d.wait.drop (k+1)) w=true→(QBL m d.wait (k+1)).map Qx=lf.map Qx:=fun h=>by rw[hsu,if_pos h,y7]
    have hye:¬(m w=true∨ovB m (d.wait.drop (k+1)) w=true)→(QBL m d.wait (k+1)).map Qx=lf.map Qx++[Qx w]:=fun h=>by rw[hsu,if_neg h,yv];rfl
    clear hsu
    cases hmw:m w with
    |true=>
     rw[hmw]at hmd
     have h1:=hno (.inl hmw)
     obtain⟨wa,wS,wk,wi,we⟩:=w
     obtain⟨g,rfl⟩:=Xy hws
     dsimp only at h1 hlk
     unfold seB
     (repeat' ((conv=>whnf);first|((with_reducible refine Q8 ?_);refine OpX.lookupOk (kx:= .it .i64 wa) (l:=LM) rfl rfl Tryz.underlying89 Tryz.underlying3 rfl (fun w=>Tryz.zeroValue3 w) (fun F=> .it _ _) rfl rfl rfl rfl hlk ?_)|with_reducible refine ZY hx ?_|with_reducible refine AtA.mk' ?_|refine CallI.h hmd [5,8,9,10] ?_|refine QB ?_|intro x hx hu|intro h|refine Spp.mk ?_ ?_))
     all_goals first|(exfalso;omega)|skip
     exact⟨k+1,hkl2,by first|omega|(dsimp only;omega),hto h1 (Wk.en (⟨ai rfl (ai rfl (ai rfl (ai rfl (ai rfl (ai rfl (ai (QW (by omega)) trivial)))))),(ai rfl (ai rfl (ai rfl (ai rfl (ai rfl (ai rfl (ai rfl (ai rfl (ai rfl (ai rfl (ai rfl (ai rfl (ai rfl trivial))))))))))))),rfl⟩))⟩
    |false=>
     rw[hmw]at hmd
     have hnt:¬m w=true:=by rw[hmw];decide
     by_cases hb2:bb=true∧(k:Int)<kk
     ·have h1:=hno (.inr (hov.2 hb2))
      obtain⟨hb3,hk5⟩:=hb2
      subst hb3
      obtain⟨wa,wS,wk,wi,we⟩:=w
      obtain⟨g,rfl⟩:=Xy hws
      dsimp only at h1 hlk
      unfold seB
      (repeat' ((conv=>whnf);first|((with_reducible refine Q8 ?_);refine OpX.lookupOk (kx:= .it .i64 wa) (l:=LM) rfl rfl Tryz.underlying89 Tryz.underlying3 rfl (fun w=>Tryz.zeroValue3 w) (fun F=> .it _ _) rfl rfl rfl rfl hlk ?_)|with_reducible refine ZY hx ?_|with_reducible refine AtA.mk' ?_|refine CallI.h hmd [5,8,9,10] ?_|refine QB ?_|intro x hx hu|intro h|refine Spp.mk ?_ ?_))
      all_goals first|(exfalso;omega)|skip
      exact⟨k+1,hkl2,by first|omega|(dsimp only;omega),hto h1 (Wk.en (⟨ai rfl (ai rfl (ai rfl (ai rfl (ai rfl (ai rfl (ai (QW (by omega)) trivial)))))),(ai rfl (ai rfl (ai rfl (ai rfl (ai rfl (ai rfl (ai rfl (ai rfl (ai rfl (ai rfl (ai rfl (ai rfl (ai rfl trivial))))))))))))),rfl⟩))⟩
     ·have h1:=hye (fun h=>h.elim hnt (fun h=>hb2 (hov.1 h)))
      have hkb:bb=true→¬(k:Int)<kk:=fun h1 h2=>hb2 ⟨h1,h2⟩
      clear hb2 hov
      obtain⟨wa,wS,wk,wi,we⟩:=w
      obtain⟨g,rfl⟩:=Xy hws
      dsimp only at h1 hlk
      unfold seB
      cases bb with
      |true=>
       have hk5:=hkb rfl
       (repeat' ((conv=>whnf);first|((with_reducible refine Q8 ?_);refine OpX.lookupOk (kx:= .it .i64 wa) (l:=LM) rfl rfl Tryz.underlying89 Tryz.underlying3 rfl (fun w=>Tryz.zeroValue3 w) (fun F=> .it _ _) rfl rfl rfl rfl hlk ?_)|with_reducible refine ZY hx ?_|with_reducible refine AtA.mk' ?_|refine CallI.h hmd [5,8,9,10] ?_|refine QB ?_|intro x hx hu|intro h|refine Spp.mk ?_ ?_))
       all_goals first|(exfalso;omega)|skip
       exact⟨k+1,hkl2,by first|omega|(dsimp only;omega),hto h1 (Wk.en (⟨ai rfl (ai rfl (ai rfl (ai rfl (ai rfl (ai rfl (ai (QW (by omega)) trivial)))))),(ai rfl (ai rfl (ai rfl (ai rfl (ai rfl (ai rfl (ai rfl (ai rfl (ai rfl (ai rfl (ai rfl (ai rfl (ai rfl trivial))))))))))))),rfl⟩))⟩
      |false=>
       (repeat' ((conv=>whnf);first|((with_reducible refine Q8 ?_);refine OpX.lookupOk (kx:= .it .i64 wa) (l:=LM) rfl rfl Tryz.underlying89 Tryz.underlying3 rfl (fun w=>Tryz.zeroValue3 w) (fun F=> .it _ _) rfl rfl rfl rfl hlk ?_)|with_reducible refine ZY hx ?_|with_reducible refine AtA.mk' ?_|refine CallI.h hmd [5,8,9,10] ?_|refine QB ?_|intro x hx hu|intro h|refine Spp.mk ?_ ?_))
       all_goals first|(exfalso;omega)|skip
       exact⟨k+1,hkl2,by first|omega|(dsimp only;omega),hto h1 (Wk.en (⟨ai rfl (ai rfl (ai rfl (ai rfl (ai rfl (ai rfl (ai (QW (by omega)) trivial)))))),(ai rfl (ai rfl (ai rfl (ai rfl (ai rfl (ai rfl (ai rfl (ai rfl (ai rfl (ai rfl (ai rfl (ai rfl (ai rfl trivial))))))))))))),rfl⟩))⟩
   ·have hke2:k=d.wait.length:=by omega
    subst hke2
    rw[hall]
    unfold seB
    (repeat' ((conv=>whnf);first|refine QB ?_|intro x hx hu|intro h|refine Spp.mk ?_ ?_))
    all_goals first|(exfalso;omega)|skip
    conv=>whnf
    refine⟨seZ b bad d T M sf ((XB m d.wait).map Qx),Wk.ren d1U trivial ?_ rfl rfl,rfl,(ai rfl (ai rfl (ai rfl (ai rfl (ai rfl (ai rfl trivial)))))),(ai rfl (ai rfl trivial))⟩
    exact(ai rfl (ai rfl (ai rfl (ai rfl (ai rfl (ai rfl (ai rfl (ai rfl trivial))))))))
def syA(b:Bool)(bad:List Int)(d:Dk)(T:Nat→Nat)(tags:List (Int×Int))(M:List (List D×D))(k:Nat):S:=⟨[(0,.ptr 0 0),(1,.d (.fs 2 (tags.map Qg))),(5,.mp 9),(17,.d (.fs 2 (tags.map Qg))),(18,.d (.it .i64 (tags.length:Nat))),(19,.d (.it .i64 (k:Nat)))],Z6 b bad (tk d)++Qn 5 [0] T++[(9,.mp true true tpT M)],10⟩
theorem QEf(b:Bool)(bad:List Int)(d:Dk)(tags:List (Int×Int))(hne:tags≠[])(htl:tags.length≤1000)(hb:DB d 95000)(hw:∀w∈d.wait,w.s.length=32)(hr:InR d):
  FnH Tryz.prog 115 [.ptr 0 0,.d (.fs 2 (tags.map Qg))] (Z6 b bad d) 5 [0] (.d (.it .i64 (if d.nx∈bad then 3 else 0))) (Z6 b bad (if d.nx∈bad then tk d else QBJ tags d)) 5:=by
 have hb1:DB (tk d) 100000:=⟨⟨by have:=hb.nx;show 0≤d.nx+1;omega,by have:=hb.nx;show d.nx+1≤_;omega⟩,by have:=hb.w;show d.wait.length≤_;omega,by have:=hb.l;show d.log.length≤_;omega,hb.s,hb.s0⟩
 obtain⟨hn,hwt,hlg,hsl,hs0⟩:=hb
 have hl1:(d.safe.map QF).length=d.safe.length:=ze ..
 have hl2:(tags.map Qg).length=tags.length:=ze ..
 by_cases hbad:d.nx∈bad
 all_goals first|rw[if_pos hbad,if_pos hbad]|rw[if_neg hbad,if_neg hbad]
 ·have hb1:bd bad d.nx=1:=if_pos hbad
  refine QR QPS fun T=>?_
  (repeat' ((conv=>whnf);first|((with_reducible refine Q8 ?_);refine OpX.lookup (kx:= .it .i64 d.nx) rfl rfl Tryz.underlying89 Tryz.underlying3 rfl (fun w=>Tryz.zeroValue3 w) (fun F=> .it _ _) rfl rfl rfl rfl (Jh bad d.nx) ?_)|refine CallE.inl ?_|with_reducible refine CallI.inl QA i57 rfl ?_|with_reducible refine CallI.inl QA QJG rfl ?_|refine QB ?_|intro x hx hu|intro h|refine Spp.mk ?_ ?_))
  all_goals first|(exfalso;omega)|skip
  exact QJ
 ·have hb2:bd bad d.nx=0:=if_neg hbad
  have hS:=QJg b bad (tk d) tags hb1 hw hr
  have hTc:=QK0 (tags.map Qg) (by rw[ze];omega)
  have hSy:QBJ tags d=⟨d.nx+1,Qi d.safe (d.wait.filter (QAG tags (Xg tags d.wait))),XB (QAG tags (Xg tags d.wait)) d.wait,d.log++[evS tags],d.ep⟩:=rfl
  rw[hSy]
  replace hS:FnH Tryz.prog 168 [.ptr 0 0,.mp 5] (Z6 b bad (tk d)++[(5,.mp true true tpT (mpT tags))]) 6 [0] (.tup []) (Z6 b bad ⟨d.nx+1,Qi d.safe (d.wait.filter (QAG tags (Xg tags d.wait))),XB (QAG tags (Xg tags d.wait)) d.wait,d.log,d.ep⟩++[(5,.mp true true tpT (mpT tags))]) 6:=hS
  generalize hsf:Qi d.safe (d.wait.filter (QAG tags (Xg tags d.wait)))=sf at*
  have hsfl:sf.length=d.safe.length:=by rw[←hsf];exact X4 _ _
  generalize XB (QAG tags (Xg tags d.wait)) d.wait=lw at*
  refine QR QPS fun T=>?_
  (repeat' ((conv=>whnf);first|((with_reducible refine Q8 ?_);first|refine OpX.lookup (kx:= .it .i64 d.nx) rfl rfl Tryz.underlying89 Tryz.underlying3 rfl (fun w=>Tryz.zeroValue3 w) (fun F=> .it _ _) rfl rfl rfl rfl (Jh bad d.nx) ?_|refine OpX.makeMap true tpT rfl rfl ?_)|refine CallE.inl ?_|with_reducible refine CallI.inl QA i57 rfl ?_|with_reducible refine CallI.inl QA QJG rfl ?_|refine QB ?_|intro x hx hu|intro h|refine Spp.mk ?_ ?_))
  all_goals first|(exfalso;omega)|skip
  conv=>whnf
  refine Qs QA (fun k:Nat=>k≤tags.length) (fun k=>syA b bad d T tags (mpT (tags.take k)) k) (fun k=>tags.length-k) 0 (yf _) (Wk.en ⟨ai rfl (ai rfl (ai rfl (ai rfl (ai (QW (by rw[hl2])) (ai rfl trivial))))),(ai rfl (ai rfl (ai rfl (ai rfl (ai rfl (ai rfl (ai rfl (ai rfl trivial)))))))),rfl⟩) ?_
  intro k hk
  by_cases hkl:k<tags.length
  ·obtain ⟨t,hx⟩:=ZD hkl
   have hM:mpT (tags.take (k+1))=Jf (mpT (tags.take k)) (Qg t) (.it .i64 1):=by rw[Q3 hx,QFt]
   have hto:∀ {N:Nat} {σ:S},Wk N σ (syA b bad d T tags (Jf (mpT (tags.take k)) (Qg t) (.it .i64 1)) (k+1))→Wk N σ (syA b bad d T tags (mpT (tags.take (k+1))) (k+1)):=fun h=>by rw[hM];exact h
   generalize mpT (tags.take k)=M at*
   unfold syA
   (repeat' ((conv=>whnf);first|((with_reducible refine Q8 ?_);refine OpX.mapUpdateA (kk:=2) (kx:=Qg t) (l:=M) rfl rfl Tryz.underlying223 QBq rfl rfl rfl rfl rfl rfl ?_)|with_reducible refine ZY hx ?_|with_reducible refine AtA.mk' ?_|refine QB ?_|intro x hx hu|intro h|refine Spp.mk ?_ ?_))
   all_goals first|(exfalso;omega)|skip
   exact⟨k+1,hkl,by first|omega|(dsimp only;omega),hto (Wk.en ⟨ai rfl (ai rfl (ai rfl (ai rfl (ai rfl (ai (QW (by omega)) trivial))))),(ai rfl (ai rfl (ai rfl (ai rfl (ai rfl (ai rfl (ai rfl (ai rfl trivial)))))))),rfl⟩)⟩
  ·have hke:tags.take k=tags:=yd (by omega)
   rw[hke]
   unfold syA
   (repeat' ((conv=>whnf);first|with_reducible refine AtA.mk' ?_|((with_reducible refine Qm ?_);first|refine Qj QA mixed (by decide+kernel) ?_|refine Qb QA mixed 0 (by decide+kernel) ?_)|refine cEk hTc ?_|refine CallE.inl ?_|refine CallI.h hS [0,1,2,3,4,9] ?_|with_reducible refine CallI.inl QA QKA rfl ?_|refine QB ?_|intro x hx hu|intro h|refine Spp.mk ?_ ?_))
   all_goals first|(exfalso;omega)|skip
   exact Yw rfl (ai (QFl rfl rfl rfl rfl) (ai rfl (ai rfl (ai rfl (ai rfl trivial))))) (ai rfl (ai rfl trivial))
def YR(f:Int→List UInt8)(p:List UInt8)(kind:Int):Int×Int:=if(Qa f p).2≠0 then(0,(Qa f p).2)else if(Qy f (Qa f p).1).k≠kind then(0,6)else((Qa f p).1,0)
def tgs(ks:List Int)(n:Int):List (Int×Int):=ks.map fun k=>(k,n)
def synP(bad:List Int)(d:Dk)(p:List UInt8)(kind:Int)(ks:List Int):Dk×Int:=
 if(YR (rdS (some d)) p kind).2≠0 then(d,(YR (rdS (some d)) p kind).2)else if d.nx∈bad then(tk d,3)else(QBJ (tgs ks (YR (rdS (some d)) p kind).1) d,0)
def barP(bad:List Int)(d:Dk):Dk×Int:=if d.nx∈bad then(tk d,3)else(QJT d,0)
def QLE(d:Dk)(p:List UInt8):Int×Int:=if(Qa (rdS (some d)) p).2≠0 then(0,(Qa (rdS (some d)) p).2)else(((d.wait.filter fun w=>decide (w.i=(Qa (rdS (some d)) p).1)).length:Nat),0)
theorem QHR{b:Bool}{bad:List Int}{d:Dk}{N:Nat}(h:Fd bad d N)(p:List UInt8)(hp:p.length≤100000)(kind:Int):
  FnH Tryz.prog 56 [.ptr 5 0,.d (.st p),.d (.it .i64 kind)] (QZ b bad d) 6 [0,5] (.tup [.d (.it .i64 (YR (rdS (some d)) p kind).1),.d (.it .i64 (YR (rdS (some d)) p kind).2)]) (QZ b bad d) 6:=by
 have hL:=X5 (some d) h.ok p hp
 have hI:=Xe (some d) h.ok (Qa (rdS (some d)) p).1
 have hA:YR (rdS (some d)) p kind=if(Qa (rdS (some d)) p).2≠0 then(0,(Qa (rdS (some d)) p).2)else if(Qy (rdS (some d)) (Qa (rdS (some d)) p).1).k≠kind then(0,6)else((Qa (rdS (some d)) p).1,0):=rfl
 generalize YR (rdS (some d)) p kind=R at*
 generalize Qy (rdS (some d)) (Qa (rdS (some d)) p).1=x at*
 generalize Qa (rdS (some d)) p=q at*
 obtain⟨n,e⟩:=q
 obtain⟨k,z,b0,b1,b2,b3⟩:=x
 dsimp only at hA hI hL
 replace hI:FnC Tryz.prog 111 [.d (QS (some d)),.d (.it .i64 n)] (.dg 6 [.it .i64 k,.it .i64 z,.it .i64 b0,.it .i64 b1,.it .i64 b2,.it .i64 b3]):=hI
 by_cases c1:e=0
 ·subst c1
  rw[if_neg (by decide)]at hA
  by_cases c2:k=kind
  ·subst c2
   rw[if_neg (fun h=>h rfl)]at hA
   subst hA
   refine QR i56 fun T=>?_
   (repeat' ((conv=>whnf);first|refine CallE.inl ?_|with_reducible refine CallI.inl QA i11 rfl ?_|with_reducible refine CallI.inl QA i50 rfl ?_|refine rFk hL ?_|refine rFk hI ?_|refine rFk hL ?_|refine rFk hI ?_|refine QB ?_|intro x hx hu|intro h|refine Spp.mk ?_ ?_))
   all_goals first|(exfalso;omega)|skip
   all_goals exact QJ
  ·rw [if_pos c2]at hA
   subst hA
   refine QR i56 fun T=>?_
   (repeat' ((conv=>whnf);first|refine CallE.inl ?_|with_reducible refine CallI.inl QA i11 rfl ?_|with_reducible refine CallI.inl QA i50 rfl ?_|refine rFk hL ?_|refine rFk hI ?_|refine rFk hL ?_|refine rFk hI ?_|refine QB ?_|intro x hx hu|intro h|refine Spp.mk ?_ ?_))
   all_goals first|(exfalso;omega)|skip
   all_goals exact QJ
 ·rw [if_pos c1]at hA
  subst hA
  refine QR i56 fun T=>?_
  (repeat' ((conv=>whnf);first|refine CallE.inl ?_|with_reducible refine CallI.inl QA i11 rfl ?_|with_reducible refine CallI.inl QA i50 rfl ?_|refine rFk hL ?_|refine rFk hI ?_|refine rFk hL ?_|refine rFk hI ?_|refine QB ?_|intro x hx hu|intro h|refine Spp.mk ?_ ?_))
  all_goals first|(exfalso;omega)|skip
  all_goals exact QJ
theorem QMq{b:Bool}{bad:List Int}{d:Dk}{N:Nat}(h:Fd bad d N):FnH Tryz.prog 23 [.ptr 5 0] (QZ b bad d) 6 [0,5] (.d (.it .i64 (barP bad d).2)) (QZ b bad (barP bad d).1) 6:=by
 have hW:=QIO b bad d ⟨by have:=h.b.nx;have:=h.hN;omega,by have:=h.b.w;have:=h.hN;omega,by have:=h.b.l;have:=h.hN;omega,h.b.s,h.b.s0⟩ (by have:=h.ep;have:=h.hN;omega)
 unfold barP
 by_cases c:d.nx∈bad
 ·rw [if_pos c,if_pos c]at hW
  rw[if_pos c]
  refine QR i23 fun T=>?_
  (repeat' ((conv=>whnf);first|refine CallE.inl ?_|with_reducible refine CallI.inl QA i11 rfl ?_|with_reducible refine CallI.inl QA i50 rfl ?_|refine CallI.h hW [0,1,2,3,4] ?_|refine QB ?_|intro x hx hu|intro h|refine Spp.mk ?_ ?_))
  exact QJ
 ·rw [if_neg c,if_neg c]at hW
  rw[if_neg c]
  refine QR i23 fun T=>?_
  (repeat' ((conv=>whnf);first|refine CallE.inl ?_|with_reducible refine CallI.inl QA i11 rfl ?_|with_reducible refine CallI.inl QA i50 rfl ?_|refine CallI.h hW [0,1,2,3,4] ?_|refine QB ?_|intro x hx hu|intro h|refine Spp.mk ?_ ?_))
  exact QJ
theorem Fd.syn{bad:List Int}{d:Dk}{N:Nat}(h:Fd bad d N)(tags:List (Int×Int))(ht:tags.length≤1000)(hM:N+1≤90000):Fd bad (QBJ tags d) (N+1):=by
 have hl:∀w∈(QBJ tags d).wait,w∈d.wait:=fun w hw=>(Yn _ _ w hw).1
 have hll:(QBJ tags d).wait.length≤d.wait.length:=by
  have key:∀(m:Wr→Bool) (l:List Wr),(XB m l).length≤l.length:=by
   intro m l
   induction l with
   |nil=>exact zr _
   |cons w t ih=>
    unfold XB
    split
    ·rw [yk];omega
    ·rw [yk,yk];omega
  exact key _ _
 have hsl:(QBJ tags d).safe.length=d.safe.length:=X4 _ _
 refine⟨fun s hs=>?_,fun w hw=>h.w w (hl w hw),fun w hw=>by rw[hsl];exact h.r w (hl w hw),⟨⟨by have:=h.b.nx;show 0≤d.nx+1;omega,by have:=h.b.nx;show d.nx+1≤_;omega⟩,by have:=h.b.w;omega,?_,by rw[hsl];exact h.b.s,by rw[hsl];exact h.b.s0⟩,by rw[hsl];exact h.n,h.bl,by have:=h.ep;show-((N+1:Nat):Int)≤d.ep∧d.ep≤((N+1:Nat):Int);omega,?_,hM⟩
 ·have key:∀(l:List Wr) (m:List (List UInt8)),(∀w∈l,w.s.length=32)→(∀s∈m,s.length=32)→∀s∈Qi m l,s.length=32:=by
   intro l
   induction l with
   |nil=>intro m _ hm s hs;exact hm s hs
   |cons w t ih=>
    intro m hl hm s hs
    refine ih (Xz m w) (fun v hv=>hl v (zk _ hv)) (fun s hs=>?_) s hs
    unfold Xz at hs
    split at hs
    ·rcases uc hs with hs|hs
     ·exact hm s hs
     ·rw [hs];exact hl w zo
    ·exact hm s hs
  exact key _ _ (fun w hw=>h.w w (uj.1 hw).1) h.s s hs
 ·show (d.log++[_]).length≤_
  rw[zt,xb];have:=h.b.l;omega
 ·exact h.lg.snoc ⟨2,w0,tags⟩ rfl ht
theorem Fd.synP{bad:List Int}{d:Dk}{N:Nat}(h:Fd bad d N)(p:List UInt8)(kind:Int)(ks:List Int)(hk:ks.length≤1000)(hM:N+1≤90000):Fd bad (Go.Proofs.YtikgcbioagmkkaaGreatDoor.synP bad d p kind ks).1 (N+1):=by
 unfold Go.Proofs.YtikgcbioagmkkaaGreatDoor.synP
 split
 ·exact h.mono (by omega) hM
 ·split
  ·exact h.tk hM
  ·exact h.syn _ (by unfold tgs;rw[ze];exact hk) hM
theorem Fd.barP{bad:List Int}{d:Dk}{N:Nat}(h:Fd bad d N)(hM:N+1≤90000):Fd bad (Go.Proofs.YtikgcbioagmkkaaGreatDoor.barP bad d).1 (N+1):=by
 unfold Go.Proofs.YtikgcbioagmkkaaGreatDoor.barP
 split
 ·exact h.tk hM
 ·exact h.bar hM
theorem QCn{b:Bool}{bad:List Int}{d:Dk}{N:Nat}(h:Fd bad d N)(p:List UInt8)(hp:p.length≤100000):
  FnH Tryz.prog 14 [.ptr 5 0,.d (.st p)] (QZ b bad d) 6 [0,5] (.d (.it .i64 (synP bad d p 1 [1,2]).2)) (QZ b bad (synP bad d p 1 [1,2]).1) 6:=by
 have hA:=QHR (b:=b) h p hp 1
 have hS:=QEf b bad d (tgs [1,2] (YR (rdS (some d)) p 1).1) (by intro h;cases h) (by show _≤1000;simp[tgs]) ⟨by have:=h.b.nx;have:=h.hN;omega,by have:=h.b.w;have:=h.hN;omega,by have:=h.b.l;have:=h.hN;omega,h.b.s,h.b.s0⟩ h.w h.r
 unfold synP
 generalize YR (rdS (some d)) p 1=q at*
 obtain⟨n,e⟩:=q
 dsimp only at*
 by_cases c1:e=0
 ·subst c1
  rw[if_neg (by decide)]
  by_cases c2:d.nx∈bad
  ·rw [if_pos c2,if_pos c2]at hS
   rw[if_pos c2]
   refine QR i14 fun T=>?_
   (repeat' ((conv=>whnf);first|refine CallE.inl ?_|with_reducible refine Q4.unroll QA 3 ?_|refine CallI.h hA [0,1,2,3,4,5] ?_|refine CallI.hp hS [0,1,2,3,4] ?_|with_reducible refine CallI.inl QA i55 rfl ?_|with_reducible refine CallI.inl QA QDK rfl ?_|with_reducible refine CallI.inl QA i11 rfl ?_|with_reducible refine CallI.inl QA i50 rfl ?_|refine QB ?_|intro x hx hu|intro h|refine Spp.mk ?_ ?_))
   all_goals first|(exfalso;omega)|skip
   all_goals exact QJ
  ·rw [if_neg c2,if_neg c2]at hS
   rw[if_neg c2]
   generalize QBJ (tgs [1,2] n) d=D2 at*
   refine QR i14 fun T=>?_
   (repeat' ((conv=>whnf);first|refine CallE.inl ?_|with_reducible refine Q4.unroll QA 3 ?_|refine CallI.h hA [0,1,2,3,4,5] ?_|refine CallI.hp hS [0,1,2,3,4] ?_|with_reducible refine CallI.inl QA i55 rfl ?_|with_reducible refine CallI.inl QA QDK rfl ?_|with_reducible refine CallI.inl QA i11 rfl ?_|with_reducible refine CallI.inl QA i50 rfl ?_|refine QB ?_|intro x hx hu|intro h|refine Spp.mk ?_ ?_))
   all_goals first|(exfalso;omega)|skip
   all_goals exact QJ
 ·rw [if_pos c1]
  refine QR i14 fun T=>?_
  (repeat' ((conv=>whnf);first|refine CallE.inl ?_|with_reducible refine Q4.unroll QA 3 ?_|refine CallI.h hA [0,1,2,3,4,5] ?_|refine CallI.hp hS [0,1,2,3,4] ?_|with_reducible refine CallI.inl QA i55 rfl ?_|with_reducible refine CallI.inl QA QDK rfl ?_|with_reducible refine CallI.inl QA i11 rfl ?_|with_reducible refine CallI.inl QA i50 rfl ?_|refine QB ?_|intro x hx hu|intro h|refine Spp.mk ?_ ?_))
  all_goals first|(exfalso;omega)|skip
  all_goals exact QJ
theorem QLF{b:Bool}{bad:List Int}{d:Dk}{N:Nat}(h:Fd bad d N)(p:List UInt8)(hp:p.length≤100000):
  FnH Tryz.prog 22 [.ptr 5 0,.d (.st p)] (QZ b bad d) 6 [0,5] (.d (.it .i64 (synP bad d p 1 [1]).2)) (QZ b bad (synP bad d p 1 [1]).1) 6:=by
 have hA:=QHR (b:=b) h p hp 1
 have hS:=QEf b bad d (tgs [1] (YR (rdS (some d)) p 1).1) (by intro h;cases h) (by show _≤1000;simp[tgs]) ⟨by have:=h.b.nx;have:=h.hN;omega,by have:=h.b.w;have:=h.hN;omega,by have:=h.b.l;have:=h.hN;omega,h.b.s,h.b.s0⟩ h.w h.r
 unfold synP
 generalize YR (rdS (some d)) p 1=q at*
 obtain⟨n,e⟩:=q
 dsimp only at*
 by_cases c1:e=0
 ·subst c1
  rw[if_neg (by decide)]
  by_cases c2:d.nx∈bad
  ·rw [if_pos c2,if_pos c2]at hS
   rw[if_pos c2]
   refine QR i22 fun T=>?_
   (repeat' ((conv=>whnf);first|refine CallE.inl ?_|with_reducible refine Q4.unroll QA 2 ?_|refine CallI.h hA [0,1,2,3,4,5] ?_|refine CallI.hp hS [0,1,2,3,4] ?_|with_reducible refine CallI.inl QA i55 rfl ?_|with_reducible refine CallI.inl QA QDK rfl ?_|with_reducible refine CallI.inl QA i11 rfl ?_|with_reducible refine CallI.inl QA i50 rfl ?_|refine QB ?_|intro x hx hu|intro h|refine Spp.mk ?_ ?_))
   all_goals first|(exfalso;omega)|skip
   all_goals exact QJ
  ·rw [if_neg c2,if_neg c2]at hS
   rw[if_neg c2]
   generalize QBJ (tgs [1] n) d=D2 at*
   refine QR i22 fun T=>?_
   (repeat' ((conv=>whnf);first|refine CallE.inl ?_|with_reducible refine Q4.unroll QA 2 ?_|refine CallI.h hA [0,1,2,3,4,5] ?_|refine CallI.hp hS [0,1,2,3,4] ?_|with_reducible refine CallI.inl QA i55 rfl ?_|with_reducible refine CallI.inl QA QDK rfl ?_|with_reducible refine CallI.inl QA i11 rfl ?_|with_reducible refine CallI.inl QA i50 rfl ?_|refine QB ?_|intro x hx hu|intro h|refine Spp.mk ?_ ?_))
   all_goals first|(exfalso;omega)|skip
   all_goals exact QJ
 ·rw [if_pos c1]
  refine QR i22 fun T=>?_
  (repeat' ((conv=>whnf);first|refine CallE.inl ?_|with_reducible refine Q4.unroll QA 2 ?_|refine CallI.h hA [0,1,2,3,4,5] ?_|refine CallI.hp hS [0,1,2,3,4] ?_|with_reducible refine CallI.inl QA i55 rfl ?_|with_reducible refine CallI.inl QA QDK rfl ?_|with_reducible refine CallI.inl QA i11 rfl ?_|with_reducible refine CallI.inl QA i50 rfl ?_|refine QB ?_|intro x hx hu|intro h|refine Spp.mk ?_ ?_))
  all_goals first|(exfalso;omega)|skip
  all_goals exact QJ
theorem QEg{b:Bool}{bad:List Int}{d:Dk}{N:Nat}(h:Fd bad d N)(p:List UInt8)(hp:p.length≤100000):
  FnH Tryz.prog 15 [.ptr 5 0,.d (.st p)] (QZ b bad d) 6 [0,5] (.d (.it .i64 (synP bad d p 2 [3,2]).2)) (QZ b bad (synP bad d p 2 [3,2]).1) 6:=by
 have hA:=QHR (b:=b) h p hp 2
 have hS:=QEf b bad d (tgs [3,2] (YR (rdS (some d)) p 2).1) (by intro h;cases h) (by show _≤1000;simp[tgs]) ⟨by have:=h.b.nx;have:=h.hN;omega,by have:=h.b.w;have:=h.hN;omega,by have:=h.b.l;have:=h.hN;omega,h.b.s,h.b.s0⟩ h.w h.r
 unfold synP
 generalize YR (rdS (some d)) p 2=q at*
 obtain⟨n,e⟩:=q
 dsimp only at*
 by_cases c1:e=0
 ·subst c1
  rw[if_neg (by decide)]
  by_cases c2:d.nx∈bad
  ·rw [if_pos c2,if_pos c2]at hS
   rw[if_pos c2]
   refine QR i15 fun T=>?_
   (repeat' ((conv=>whnf);first|refine CallE.inl ?_|with_reducible refine Q4.unroll QA 3 ?_|refine CallI.h hA [0,1,2,3,4,5] ?_|refine CallI.hp hS [0,1,2,3,4] ?_|with_reducible refine CallI.inl QA i55 rfl ?_|with_reducible refine CallI.inl QA QDK rfl ?_|with_reducible refine CallI.inl QA i11 rfl ?_|with_reducible refine CallI.inl QA i50 rfl ?_|refine QB ?_|intro x hx hu|intro h|refine Spp.mk ?_ ?_))
   all_goals first|(exfalso;omega)|skip
   all_goals exact QJ
  ·rw [if_neg c2,if_neg c2]at hS
   rw[if_neg c2]
   generalize QBJ (tgs [3,2] n) d=D2 at*
   refine QR i15 fun T=>?_
   (repeat' ((conv=>whnf);first|refine CallE.inl ?_|with_reducible refine Q4.unroll QA 3 ?_|refine CallI.h hA [0,1,2,3,4,5] ?_|refine CallI.hp hS [0,1,2,3,4] ?_|with_reducible refine CallI.inl QA i55 rfl ?_|with_reducible refine CallI.inl QA QDK rfl ?_|with_reducible refine CallI.inl QA i11 rfl ?_|with_reducible refine CallI.inl QA i50 rfl ?_|refine QB ?_|intro x hx hu|intro h|refine Spp.mk ?_ ?_))
   all_goals first|(exfalso;omega)|skip
   all_goals exact QJ
 ·rw [if_pos c1]
  refine QR i15 fun T=>?_
  (repeat' ((conv=>whnf);first|refine CallE.inl ?_|with_reducible refine Q4.unroll QA 3 ?_|refine CallI.h hA [0,1,2,3,4,5] ?_|refine CallI.hp hS [0,1,2,3,4] ?_|with_reducible refine CallI.inl QA i55 rfl ?_|with_reducible refine CallI.inl QA QDK rfl ?_|with_reducible refine CallI.inl QA i11 rfl ?_|with_reducible refine CallI.inl QA i50 rfl ?_|refine QB ?_|intro x hx hu|intro h|refine Spp.mk ?_ ?_))
  all_goals first|(exfalso;omega)|skip
  all_goals exact QJ
end Go.Proofs.YtikgcbioagmkkaaGreatDoor
