/- Contracts of the functions that the law reaches, and the law. Conditions: none. -/
import Derived.Test.YtikgcbioagmkkaaGreatDoorPKD
import Derived.Test.YtikgcbioagmkkaaGreatDoorPSE
set_option maxRecDepth 100000
set_option linter.all false
set_option maxHeartbeats 16000000
namespace Go.Proofs.YtikgcbioagmkkaaGreatDoor
open Go.Sy
def seO(b:Bool)(bad:List Int)(d:Dk)(sf:List (List D)):List (Nat×Ob):=[(0,.cells 6 [.mp 3,.d (.it .i64 d.nx),.vx 32 4 0 d.safe.length,.ts 36 (d.wait.map QR) 1,.ts 38 d.log 2,.d (.it .i64 d.ep)]),(1,.tail 49 true),(2,.tail 110 true),(3,.mp b false [.it .i64 0] (QAG bad)),(4,.vec 37 32 sf false)]
def seX(T:Nat->Nat)(M:List (List D×D)):List (Nat×Ob):=[(5,.mp true true tpT M)]++Qr 6 [0] T++[(8,.cells 1 [.mp 5])]
def seS(b:Bool)(bad:List Int)(d:Dk)(T:Nat->Nat)(M:List (List D×D))(sl:List (Nat×AV))(m:List (Nat×Ob)):S:=⟨sl,seO b bad d (d.safe.map QF)++seX T M++m,12⟩
noncomputable def Zr:List Oper:=Qw 0 0 (Qw 0 0 (Qw 0 0 (QQk 1 (Go.Sy.bd Tryz.f168))))
variable {N:Nat}
variable {σ:S}
variable {ops:List Oper}
variable {K:S->Prop}
theorem dwk{τ:S}{D done:List Nat}(h:QI Tryz.prog ti N ops D τ K)(hw:Wk N σ τ)(hB:(QIw D done&&QOl D)=true:=by decide+kernel):QI Tryz.prog ti N ops done σ K:=h.tow hB hw
def r9:Nat->Nat|9=>12|j=>j
def r10:Nat->Nat|10=>12|j=>j
theorem seR(b:Bool)(bad:List Int)(d:Dk)(T:Nat->Nat)(M:List (List D×D))(t:Option Int)
  (hT:FnH Tryz.prog 217 [.d (.fs 36 (d.wait.map QR)),.mp 0] [(0,.mp true true tpT M),(1,.cells 1 [.mp 0])] 2 [1] (.tup [.d (.it .i64 (bst t)),.d (.bl (smB t))]) [(0,.mp true true tpT M),(1,.cells 1 [.mp 0])] 2)
  (hK:∀σ,Wk 92 σ (seS b bad d T M [(0,.ptr 0 0),(3,.ptr 8 0),(4,.ptr 9 0),(5,.ptr 10 0)] [(9,.cells 1 [.d (.it .i64 (bst t))]),(10,.cells 1 [.d (.bl (smB t))])])->K σ):QI Tryz.prog ti 92 Zr [] (seS b bad d T M [(0,.ptr 0 0),(3,.ptr 8 0),(18,.ptr 0 3)] []) K:=by
 have h012345678:QI Tryz.prog ti 92 Zr [0,1,2,3,4,5,6,7,8] (seS b bad d T M [(0,.ptr 0 0),(3,.ptr 8 0),(23,.d (.bl (smB t))),(4,.ptr 9 0),(5,.ptr 10 0)] [(9,.cells 1 [.d (.it .i64 (bst t))]),(10,.cells 1 [.d (.bl false)])]) K:=by
  refine QI.fin QB (.cons 9 .nil .nil) dkk ?_;refine Br.mk ?_ trivial;unfold seS;(repeat' (conv=>whnf);first|refine QA ?_|intro x hx hu|intro h|apply sS);conv=>whnf
  exact hK _ Wk.e
 have h01234567:QI Tryz.prog ti 92 Zr [0,1,2,3,4,5,6,7] (seS b bad d T M [(0,.ptr 0 0),(3,.ptr 8 0),(22,.d (.it .i64 (bst t))),(23,.d (.bl (smB t))),(4,.ptr 9 0),(5,.ptr 10 0)] [(9,.cells 1 [.d (.it .i64 0)]),(10,.cells 1 [.d (.bl false)])]) K:=by
  refine QI.alt QB [8] dkk ?_;unfold seS;refine Br.mk ?_ trivial
  ·(repeat' (conv=>whnf);first|refine QA ?_|intro x hx hu|intro h|apply sS);exact dwk h012345678 Wk.e
 have h0123456:QI Tryz.prog ti 92 Zr [0,1,2,3,4,5,6] (seS b bad d T M [(0,.ptr 0 0),(3,.ptr 8 0),(22,.d (.it .i64 (bst t))),(23,.d (.bl (smB t))),(4,.ptr 9 0)] [(9,.cells 1 [.d (.it .i64 0)])]) K:=by
  refine QI.alt QB [7] dkk ?_;unfold seS;refine Br.mk ?_ trivial
  ·(repeat' (conv=>whnf);first|refine QA ?_|intro x hx hu|intro h|apply sS);exact dwk h01234567 (Wk.r r10)
 have h0123457:QI Tryz.prog ti 92 Zr [0,1,2,3,4,5,7] (seS b bad d T M [(0,.ptr 0 0),(3,.ptr 8 0),(22,.d (.it .i64 (bst t))),(23,.d (.bl (smB t))),(5,.ptr 10 0)] [(10,.cells 1 [.d (.bl false)])]) K:=by
  refine QI.alt QB [6] dkk ?_;unfold seS;refine Br.mk ?_ trivial
  ·(repeat' (conv=>whnf);first|refine QA ?_|intro x hx hu|intro h|apply sS);exact dwk h01234567 (Wk.r r9)
 have h012345:QI Tryz.prog ti 92 Zr [0,1,2,3,4,5] (seS b bad d T M [(0,.ptr 0 0),(3,.ptr 8 0),(22,.d (.it .i64 (bst t))),(23,.d (.bl (smB t)))] []) K:=by
  refine QI.alt QB [6,7] dkk ?_;unfold seS;refine Br.mk ?_ (Br.mk ?_ trivial)
  ·(repeat' (conv=>whnf);first|refine QA ?_|intro x hx hu|intro h|apply sS);exact dwk h0123456 (Wk.r r9)
  ·(repeat' (conv=>whnf);first|refine QA ?_|intro x hx hu|intro h|apply sS);exact dwk h0123457 (Wk.r r10)
 have h01234678:QI Tryz.prog ti 92 Zr [0,1,2,3,4,6,7,8] (seS b bad d T M [(0,.ptr 0 0),(3,.ptr 8 0),(15,.tup [.d (.it .i64 (bst t)),.d (.bl (smB t))]),(4,.ptr 9 0),(5,.ptr 10 0)] [(9,.cells 1 [.d (.it .i64 (bst t))]),(10,.cells 1 [.d (.bl false)])]) K:=by
  refine QI.alt QB [5] dkk ?_;unfold seS;refine Br.mk ?_ trivial
  ·(repeat' (conv=>whnf);first|refine QA ?_|intro x hx hu|intro h|apply sS);exact dwk h012345678 Wk.e
 have h0123467:QI Tryz.prog ti 92 Zr [0,1,2,3,4,6,7] (seS b bad d T M [(0,.ptr 0 0),(3,.ptr 8 0),(15,.tup [.d (.it .i64 (bst t)),.d (.bl (smB t))]),(22,.d (.it .i64 (bst t))),(4,.ptr 9 0),(5,.ptr 10 0)] [(9,.cells 1 [.d (.it .i64 0)]),(10,.cells 1 [.d (.bl false)])]) K:=by
  refine QI.alt QB [5,8] dkk ?_;unfold seS;refine Br.mk ?_ (Br.mk ?_ trivial)
  ·(repeat' (conv=>whnf);first|refine QA ?_|intro x hx hu|intro h|apply sS);exact dwk h01234567 Wk.e
  ·(repeat' (conv=>whnf);first|refine QA ?_|intro x hx hu|intro h|apply sS);exact dwk h01234678 Wk.e
 have h012346:QI Tryz.prog ti 92 Zr [0,1,2,3,4,6] (seS b bad d T M [(0,.ptr 0 0),(3,.ptr 8 0),(15,.tup [.d (.it .i64 (bst t)),.d (.bl (smB t))]),(22,.d (.it .i64 (bst t))),(4,.ptr 9 0)] [(9,.cells 1 [.d (.it .i64 0)])]) K:=by
  refine QI.alt QB [5,7] dkk ?_;unfold seS;refine Br.mk ?_ (Br.mk ?_ trivial)
  ·(repeat' (conv=>whnf);first|refine QA ?_|intro x hx hu|intro h|apply sS);exact dwk h0123456 Wk.e
  ·(repeat' (conv=>whnf);first|refine QA ?_|intro x hx hu|intro h|apply sS);exact dwk h0123467 (Wk.r r10)
 have h012347:QI Tryz.prog ti 92 Zr [0,1,2,3,4,7] (seS b bad d T M [(0,.ptr 0 0),(3,.ptr 8 0),(15,.tup [.d (.it .i64 (bst t)),.d (.bl (smB t))]),(22,.d (.it .i64 (bst t))),(5,.ptr 10 0)] [(10,.cells 1 [.d (.bl false)])]) K:=by
  refine QI.alt QB [5,6] dkk ?_;unfold seS;refine Br.mk ?_ (Br.mk ?_ trivial)
  ·(repeat' (conv=>whnf);first|refine QA ?_|intro x hx hu|intro h|apply sS);exact dwk h0123457 Wk.e
  ·(repeat' (conv=>whnf);first|refine QA ?_|intro x hx hu|intro h|apply sS);exact dwk h0123467 (Wk.r r9)
 have h01234:QI Tryz.prog ti 92 Zr [0,1,2,3,4] (seS b bad d T M [(0,.ptr 0 0),(3,.ptr 8 0),(15,.tup [.d (.it .i64 (bst t)),.d (.bl (smB t))]),(22,.d (.it .i64 (bst t)))] []) K:=by
  refine QI.alt QB [5,6,7] dkk ?_;unfold seS;refine Br.mk ?_ (Br.mk ?_ (Br.mk ?_ trivial))
  ·(repeat' (conv=>whnf);first|refine QA ?_|intro x hx hu|intro h|apply sS);exact dwk h012345 Wk.e
  ·(repeat' (conv=>whnf);first|refine QA ?_|intro x hx hu|intro h|apply sS);exact dwk h012346 (Wk.r r9)
  ·(repeat' (conv=>whnf);first|refine QA ?_|intro x hx hu|intro h|apply sS);exact dwk h012347 (Wk.r r10)
 have h0123567:QI Tryz.prog ti 92 Zr [0,1,2,3,5,6,7] (seS b bad d T M [(0,.ptr 0 0),(3,.ptr 8 0),(15,.tup [.d (.it .i64 (bst t)),.d (.bl (smB t))]),(23,.d (.bl (smB t))),(4,.ptr 9 0),(5,.ptr 10 0)] [(9,.cells 1 [.d (.it .i64 0)]),(10,.cells 1 [.d (.bl false)])]) K:=by
  refine QI.alt QB [4] dkk ?_;unfold seS;refine Br.mk ?_ trivial
  ·(repeat' (conv=>whnf);first|refine QA ?_|intro x hx hu|intro h|apply sS);exact dwk h01234567 Wk.e
 have h012356:QI Tryz.prog ti 92 Zr [0,1,2,3,5,6] (seS b bad d T M [(0,.ptr 0 0),(3,.ptr 8 0),(15,.tup [.d (.it .i64 (bst t)),.d (.bl (smB t))]),(23,.d (.bl (smB t))),(4,.ptr 9 0)] [(9,.cells 1 [.d (.it .i64 0)])]) K:=by
  refine QI.alt QB [4,7] dkk ?_;unfold seS;refine Br.mk ?_ (Br.mk ?_ trivial)
  ·(repeat' (conv=>whnf);first|refine QA ?_|intro x hx hu|intro h|apply sS);exact dwk h0123456 Wk.e
  ·(repeat' (conv=>whnf);first|refine QA ?_|intro x hx hu|intro h|apply sS);exact dwk h0123567 (Wk.r r10)
 have h012357:QI Tryz.prog ti 92 Zr [0,1,2,3,5,7] (seS b bad d T M [(0,.ptr 0 0),(3,.ptr 8 0),(15,.tup [.d (.it .i64 (bst t)),.d (.bl (smB t))]),(23,.d (.bl (smB t))),(5,.ptr 10 0)] [(10,.cells 1 [.d (.bl false)])]) K:=by
  refine QI.alt QB [4,6] dkk ?_;unfold seS;refine Br.mk ?_ (Br.mk ?_ trivial)
  ·(repeat' (conv=>whnf);first|refine QA ?_|intro x hx hu|intro h|apply sS);exact dwk h0123457 Wk.e
  ·(repeat' (conv=>whnf);first|refine QA ?_|intro x hx hu|intro h|apply sS);exact dwk h0123567 (Wk.r r9)
 have h01235:QI Tryz.prog ti 92 Zr [0,1,2,3,5] (seS b bad d T M [(0,.ptr 0 0),(3,.ptr 8 0),(15,.tup [.d (.it .i64 (bst t)),.d (.bl (smB t))]),(23,.d (.bl (smB t)))] []) K:=by
  refine QI.alt QB [4,6,7] dkk ?_;unfold seS;refine Br.mk ?_ (Br.mk ?_ (Br.mk ?_ trivial))
  ·(repeat' (conv=>whnf);first|refine QA ?_|intro x hx hu|intro h|apply sS);exact dwk h012345 Wk.e
  ·(repeat' (conv=>whnf);first|refine QA ?_|intro x hx hu|intro h|apply sS);exact dwk h012356 (Wk.r r9)
  ·(repeat' (conv=>whnf);first|refine QA ?_|intro x hx hu|intro h|apply sS);exact dwk h012357 (Wk.r r10)
 have h012367:QI Tryz.prog ti 92 Zr [0,1,2,3,6,7] (seS b bad d T M [(0,.ptr 0 0),(3,.ptr 8 0),(15,.tup [.d (.it .i64 (bst t)),.d (.bl (smB t))]),(4,.ptr 9 0),(5,.ptr 10 0)] [(9,.cells 1 [.d (.it .i64 0)]),(10,.cells 1 [.d (.bl false)])]) K:=by
  refine QI.alt QB [4,5] dkk ?_;unfold seS;refine Br.mk ?_ (Br.mk ?_ trivial)
  ·(repeat' (conv=>whnf);first|refine QA ?_|intro x hx hu|intro h|apply sS);exact dwk h0123467 Wk.e
  ·(repeat' (conv=>whnf);first|refine QA ?_|intro x hx hu|intro h|apply sS);exact dwk h0123567 Wk.e
 have h01236:QI Tryz.prog ti 92 Zr [0,1,2,3,6] (seS b bad d T M [(0,.ptr 0 0),(3,.ptr 8 0),(15,.tup [.d (.it .i64 (bst t)),.d (.bl (smB t))]),(4,.ptr 9 0)] [(9,.cells 1 [.d (.it .i64 0)])]) K:=by
  refine QI.alt QB [4,5,7] dkk ?_;unfold seS;refine Br.mk ?_ (Br.mk ?_ (Br.mk ?_ trivial))
  ·(repeat' (conv=>whnf);first|refine QA ?_|intro x hx hu|intro h|apply sS);exact dwk h012346 Wk.e
  ·(repeat' (conv=>whnf);first|refine QA ?_|intro x hx hu|intro h|apply sS);exact dwk h012356 Wk.e
  ·(repeat' (conv=>whnf);first|refine QA ?_|intro x hx hu|intro h|apply sS);exact dwk h012367 (Wk.r r10)
 have h01237:QI Tryz.prog ti 92 Zr [0,1,2,3,7] (seS b bad d T M [(0,.ptr 0 0),(3,.ptr 8 0),(15,.tup [.d (.it .i64 (bst t)),.d (.bl (smB t))]),(5,.ptr 10 0)] [(10,.cells 1 [.d (.bl false)])]) K:=by
  refine QI.alt QB [4,5,6] dkk ?_;unfold seS;refine Br.mk ?_ (Br.mk ?_ (Br.mk ?_ trivial))
  ·(repeat' (conv=>whnf);first|refine QA ?_|intro x hx hu|intro h|apply sS);exact dwk h012347 Wk.e
  ·(repeat' (conv=>whnf);first|refine QA ?_|intro x hx hu|intro h|apply sS);exact dwk h012357 Wk.e
  ·(repeat' (conv=>whnf);first|refine QA ?_|intro x hx hu|intro h|apply sS);exact dwk h012367 (Wk.r r9)
 have h0123:QI Tryz.prog ti 92 Zr [0,1,2,3] (seS b bad d T M [(0,.ptr 0 0),(3,.ptr 8 0),(15,.tup [.d (.it .i64 (bst t)),.d (.bl (smB t))])] []) K:=by
  refine QI.alt QB [4,5,6,7] dkk ?_;unfold seS;refine Br.mk ?_ (Br.mk ?_ (Br.mk ?_ (Br.mk ?_ trivial)))
  ·(repeat' (conv=>whnf);first|refine QA ?_|intro x hx hu|intro h|apply sS);exact dwk h01234 Wk.e
  ·(repeat' (conv=>whnf);first|refine QA ?_|intro x hx hu|intro h|apply sS);exact dwk h01235 Wk.e
  ·(repeat' (conv=>whnf);first|refine QA ?_|intro x hx hu|intro h|apply sS);exact dwk h01236 (Wk.r r9)
  ·(repeat' (conv=>whnf);first|refine QA ?_|intro x hx hu|intro h|apply sS);exact dwk h01237 (Wk.r r10)
 have h01267:QI Tryz.prog ti 92 Zr [0,1,2,6,7] (seS b bad d T M [(0,.ptr 0 0),(3,.ptr 8 0),(21,.tup [.d (.it .i64 (bst t)),.d (.bl (smB t))]),(4,.ptr 9 0),(5,.ptr 10 0)] [(9,.cells 1 [.d (.it .i64 0)]),(10,.cells 1 [.d (.bl false)])]) K:=by
  refine QI.alt QB [3] dkk ?_;unfold seS;refine Br.mk ?_ trivial
  ·(repeat' (conv=>whnf);first|refine QA ?_|intro x hx hu|intro h|apply sS);exact dwk h012367 Wk.e
 have h0126:QI Tryz.prog ti 92 Zr [0,1,2,6] (seS b bad d T M [(0,.ptr 0 0),(3,.ptr 8 0),(21,.tup [.d (.it .i64 (bst t)),.d (.bl (smB t))]),(4,.ptr 9 0)] [(9,.cells 1 [.d (.it .i64 0)])]) K:=by
  refine QI.alt QB [3,7] dkk ?_;unfold seS;refine Br.mk ?_ (Br.mk ?_ trivial)
  ·(repeat' (conv=>whnf);first|refine QA ?_|intro x hx hu|intro h|apply sS);exact dwk h01236 Wk.e
  ·(repeat' (conv=>whnf);first|refine QA ?_|intro x hx hu|intro h|apply sS);exact dwk h01267 (Wk.r r10)
 have h0127:QI Tryz.prog ti 92 Zr [0,1,2,7] (seS b bad d T M [(0,.ptr 0 0),(3,.ptr 8 0),(21,.tup [.d (.it .i64 (bst t)),.d (.bl (smB t))]),(5,.ptr 10 0)] [(10,.cells 1 [.d (.bl false)])]) K:=by
  refine QI.alt QB [3,6] dkk ?_;unfold seS;refine Br.mk ?_ (Br.mk ?_ trivial)
  ·(repeat' (conv=>whnf);first|refine QA ?_|intro x hx hu|intro h|apply sS);exact dwk h01237 Wk.e
  ·(repeat' (conv=>whnf);first|refine QA ?_|intro x hx hu|intro h|apply sS);exact dwk h01267 (Wk.r r9)
 have h012:QI Tryz.prog ti 92 Zr [0,1,2] (seS b bad d T M [(0,.ptr 0 0),(3,.ptr 8 0),(21,.tup [.d (.it .i64 (bst t)),.d (.bl (smB t))])] []) K:=by
  refine QI.alt QB [3,6,7] dkk ?_;unfold seS;refine Br.mk ?_ (Br.mk ?_ (Br.mk ?_ trivial))
  ·(repeat' (conv=>whnf);first|refine QA ?_|intro x hx hu|intro h|apply sS);exact dwk h0123 Wk.e
  ·(repeat' (conv=>whnf);first|refine QA ?_|intro x hx hu|intro h|apply sS);exact dwk h0126 (Wk.r r9)
  ·(repeat' (conv=>whnf);first|refine QA ?_|intro x hx hu|intro h|apply sS);exact dwk h0127 (Wk.r r10)
 have h0167:QI Tryz.prog ti 92 Zr [0,1,6,7] (seS b bad d T M [(0,.ptr 0 0),(3,.ptr 8 0),(19,.ts 36 (d.wait.map QR) 1),(20,.mp 5),(4,.ptr 9 0),(5,.ptr 10 0)] [(9,.cells 1 [.d (.it .i64 0)]),(10,.cells 1 [.d (.bl false)])]) K:=by
  refine QI.alt QB [2] dkk ?_;unfold seS;refine Br.mk ?_ trivial
  ·(repeat' (conv=>whnf);first|refine CallI.hp hT [5,8] ?_|refine QA ?_|intro x hx hu|intro h|apply sS);exact dwk h01267 Wk.e
 have h016:QI Tryz.prog ti 92 Zr [0,1,6] (seS b bad d T M [(0,.ptr 0 0),(3,.ptr 8 0),(19,.ts 36 (d.wait.map QR) 1),(20,.mp 5),(4,.ptr 9 0)] [(9,.cells 1 [.d (.it .i64 0)])]) K:=by
  refine QI.alt QB [2,7] dkk ?_;unfold seS;refine Br.mk ?_ (Br.mk ?_ trivial)
  ·(repeat' (conv=>whnf);first|refine CallI.hp hT [5,8] ?_|refine QA ?_|intro x hx hu|intro h|apply sS);exact dwk h0126 Wk.e
  ·(repeat' (conv=>whnf);first|refine QA ?_|intro x hx hu|intro h|apply sS);exact dwk h0167 (Wk.r r10)
 have h017:QI Tryz.prog ti 92 Zr [0,1,7] (seS b bad d T M [(0,.ptr 0 0),(3,.ptr 8 0),(19,.ts 36 (d.wait.map QR) 1),(20,.mp 5),(5,.ptr 10 0)] [(10,.cells 1 [.d (.bl false)])]) K:=by
  refine QI.alt QB [2,6] dkk ?_;unfold seS;refine Br.mk ?_ (Br.mk ?_ trivial)
  ·(repeat' (conv=>whnf);first|refine CallI.hp hT [5,8] ?_|refine QA ?_|intro x hx hu|intro h|apply sS);exact dwk h0127 Wk.e
  ·(repeat' (conv=>whnf);first|refine QA ?_|intro x hx hu|intro h|apply sS);exact dwk h0167 (Wk.r r9)
 have h01:QI Tryz.prog ti 92 Zr [0,1] (seS b bad d T M [(0,.ptr 0 0),(3,.ptr 8 0),(19,.ts 36 (d.wait.map QR) 1),(20,.mp 5)] []) K:=by
  refine QI.alt QB [2,6,7] dkk ?_;unfold seS;refine Br.mk ?_ (Br.mk ?_ (Br.mk ?_ trivial))
  ·(repeat' (conv=>whnf);first|refine CallI.hp hT [5,8] ?_|refine QA ?_|intro x hx hu|intro h|apply sS);exact dwk h012 Wk.e
  ·(repeat' (conv=>whnf);first|refine QA ?_|intro x hx hu|intro h|apply sS);exact dwk h016 (Wk.r r9)
  ·(repeat' (conv=>whnf);first|refine QA ?_|intro x hx hu|intro h|apply sS);exact dwk h017 (Wk.r r10)
 have h067:QI Tryz.prog ti 92 Zr [0,6,7] (seS b bad d T M [(0,.ptr 0 0),(3,.ptr 8 0),(19,.ts 36 (d.wait.map QR) 1),(4,.ptr 9 0),(5,.ptr 10 0)] [(9,.cells 1 [.d (.it .i64 0)]),(10,.cells 1 [.d (.bl false)])]) K:=by
  refine QI.alt QB [1] dkk ?_;unfold seS;refine Br.mk ?_ trivial
  ·(repeat' (conv=>whnf);first|refine QA ?_|intro x hx hu|intro h|apply sS);exact dwk h0167 Wk.e
 have h06:QI Tryz.prog ti 92 Zr [0,6] (seS b bad d T M [(0,.ptr 0 0),(3,.ptr 8 0),(19,.ts 36 (d.wait.map QR) 1),(4,.ptr 9 0)] [(9,.cells 1 [.d (.it .i64 0)])]) K:=by
  refine QI.alt QB [1,7] dkk ?_;unfold seS;refine Br.mk ?_ (Br.mk ?_ trivial)
  ·(repeat' (conv=>whnf);first|refine QA ?_|intro x hx hu|intro h|apply sS);exact dwk h016 Wk.e
  ·(repeat' (conv=>whnf);first|refine QA ?_|intro x hx hu|intro h|apply sS);exact dwk h067 (Wk.r r10)
 have h07:QI Tryz.prog ti 92 Zr [0,7] (seS b bad d T M [(0,.ptr 0 0),(3,.ptr 8 0),(19,.ts 36 (d.wait.map QR) 1),(5,.ptr 10 0)] [(10,.cells 1 [.d (.bl false)])]) K:=by
  refine QI.alt QB [1,6] dkk ?_;unfold seS;refine Br.mk ?_ (Br.mk ?_ trivial)
  ·(repeat' (conv=>whnf);first|refine QA ?_|intro x hx hu|intro h|apply sS);exact dwk h017 Wk.e
  ·(repeat' (conv=>whnf);first|refine QA ?_|intro x hx hu|intro h|apply sS);exact dwk h067 (Wk.r r9)
 have h0:QI Tryz.prog ti 92 Zr [0] (seS b bad d T M [(0,.ptr 0 0),(3,.ptr 8 0),(19,.ts 36 (d.wait.map QR) 1)] []) K:=by
  refine QI.alt QB [1,6,7] dkk ?_;unfold seS;refine Br.mk ?_ (Br.mk ?_ (Br.mk ?_ trivial))
  ·(repeat' (conv=>whnf);first|refine QA ?_|intro x hx hu|intro h|apply sS);exact dwk h01 Wk.e
  ·(repeat' (conv=>whnf);first|refine QA ?_|intro x hx hu|intro h|apply sS);exact dwk h06 (Wk.r r9)
  ·(repeat' (conv=>whnf);first|refine QA ?_|intro x hx hu|intro h|apply sS);exact dwk h07 (Wk.r r10)
 have h167:QI Tryz.prog ti 92 Zr [1,6,7] (seS b bad d T M [(0,.ptr 0 0),(3,.ptr 8 0),(18,.ptr 0 3),(20,.mp 5),(4,.ptr 9 0),(5,.ptr 10 0)] [(9,.cells 1 [.d (.it .i64 0)]),(10,.cells 1 [.d (.bl false)])]) K:=by
  refine QI.alt QB [0] dkk ?_;unfold seS;refine Br.mk ?_ trivial
  ·(repeat' (conv=>whnf);first|refine QA ?_|intro x hx hu|intro h|apply sS);exact dwk h0167 Wk.e
 have h16:QI Tryz.prog ti 92 Zr [1,6] (seS b bad d T M [(0,.ptr 0 0),(3,.ptr 8 0),(18,.ptr 0 3),(20,.mp 5),(4,.ptr 9 0)] [(9,.cells 1 [.d (.it .i64 0)])]) K:=by
  refine QI.alt QB [0,7] dkk ?_;unfold seS;refine Br.mk ?_ (Br.mk ?_ trivial)
  ·(repeat' (conv=>whnf);first|refine QA ?_|intro x hx hu|intro h|apply sS);exact dwk h016 Wk.e
  ·(repeat' (conv=>whnf);first|refine QA ?_|intro x hx hu|intro h|apply sS);exact dwk h167 (Wk.r r10)
 have h17:QI Tryz.prog ti 92 Zr [1,7] (seS b bad d T M [(0,.ptr 0 0),(3,.ptr 8 0),(18,.ptr 0 3),(20,.mp 5),(5,.ptr 10 0)] [(10,.cells 1 [.d (.bl false)])]) K:=by
  refine QI.alt QB [0,6] dkk ?_;unfold seS;refine Br.mk ?_ (Br.mk ?_ trivial)
  ·(repeat' (conv=>whnf);first|refine QA ?_|intro x hx hu|intro h|apply sS);exact dwk h017 Wk.e
  ·(repeat' (conv=>whnf);first|refine QA ?_|intro x hx hu|intro h|apply sS);exact dwk h167 (Wk.r r9)
 have h1:QI Tryz.prog ti 92 Zr [1] (seS b bad d T M [(0,.ptr 0 0),(3,.ptr 8 0),(18,.ptr 0 3),(20,.mp 5)] []) K:=by
  refine QI.alt QB [0,6,7] dkk ?_;unfold seS;refine Br.mk ?_ (Br.mk ?_ (Br.mk ?_ trivial))
  ·(repeat' (conv=>whnf);first|refine QA ?_|intro x hx hu|intro h|apply sS);exact dwk h01 Wk.e
  ·(repeat' (conv=>whnf);first|refine QA ?_|intro x hx hu|intro h|apply sS);exact dwk h16 (Wk.r r9)
  ·(repeat' (conv=>whnf);first|refine QA ?_|intro x hx hu|intro h|apply sS);exact dwk h17 (Wk.r r10)
 have h67:QI Tryz.prog ti 92 Zr [6,7] (seS b bad d T M [(0,.ptr 0 0),(3,.ptr 8 0),(18,.ptr 0 3),(4,.ptr 9 0),(5,.ptr 10 0)] [(9,.cells 1 [.d (.it .i64 0)]),(10,.cells 1 [.d (.bl false)])]) K:=by
  refine QI.alt QB [0,1] dkk ?_;unfold seS;refine Br.mk ?_ (Br.mk ?_ trivial)
  ·(repeat' (conv=>whnf);first|refine QA ?_|intro x hx hu|intro h|apply sS);exact dwk h067 Wk.e
  ·(repeat' (conv=>whnf);first|refine QA ?_|intro x hx hu|intro h|apply sS);exact dwk h167 Wk.e
 have h6:QI Tryz.prog ti 92 Zr [6] (seS b bad d T M [(0,.ptr 0 0),(3,.ptr 8 0),(18,.ptr 0 3),(4,.ptr 9 0)] [(9,.cells 1 [.d (.it .i64 0)])]) K:=by
  refine QI.alt QB [0,1,7] dkk ?_;unfold seS;refine Br.mk ?_ (Br.mk ?_ (Br.mk ?_ trivial))
  ·(repeat' (conv=>whnf);first|refine QA ?_|intro x hx hu|intro h|apply sS);exact dwk h06 Wk.e
  ·(repeat' (conv=>whnf);first|refine QA ?_|intro x hx hu|intro h|apply sS);exact dwk h16 Wk.e
  ·(repeat' (conv=>whnf);first|refine QA ?_|intro x hx hu|intro h|apply sS);exact dwk h67 (Wk.r r10)
 have h7:QI Tryz.prog ti 92 Zr [7] (seS b bad d T M [(0,.ptr 0 0),(3,.ptr 8 0),(18,.ptr 0 3),(5,.ptr 10 0)] [(10,.cells 1 [.d (.bl false)])]) K:=by
  refine QI.alt QB [0,1,6] dkk ?_;unfold seS;refine Br.mk ?_ (Br.mk ?_ (Br.mk ?_ trivial))
  ·(repeat' (conv=>whnf);first|refine QA ?_|intro x hx hu|intro h|apply sS);exact dwk h07 Wk.e
  ·(repeat' (conv=>whnf);first|refine QA ?_|intro x hx hu|intro h|apply sS);exact dwk h17 Wk.e
  ·(repeat' (conv=>whnf);first|refine QA ?_|intro x hx hu|intro h|apply sS);exact dwk h67 (Wk.r r9)
 have h:QI Tryz.prog ti 92 Zr [] (seS b bad d T M [(0,.ptr 0 0),(3,.ptr 8 0),(18,.ptr 0 3)] []) K:=by
  refine QI.alt QB [0,1,6,7] dkk ?_;unfold seS;refine Br.mk ?_ (Br.mk ?_ (Br.mk ?_ (Br.mk ?_ trivial)))
  ·(repeat' (conv=>whnf);first|refine QA ?_|intro x hx hu|intro h|apply sS);exact dwk h0 Wk.e
  ·(repeat' (conv=>whnf);first|refine QA ?_|intro x hx hu|intro h|apply sS);exact dwk h1 Wk.e
  ·(repeat' (conv=>whnf);first|refine QA ?_|intro x hx hu|intro h|apply sS);exact dwk h6 (Wk.r r9)
  ·(repeat' (conv=>whnf);first|refine QA ?_|intro x hx hu|intro h|apply sS);exact dwk h7 (Wk.r r10)
 exact h
noncomputable def QTh:List Oper:=QQk 1 (Go.Sy.bd Tryz.f168)
def seM(b:Bool)(bad:List Int)(d:Dk)(T:Nat->Nat)(M:List (List D×D))(t:Option Int):S:=seS b bad d T M [(0,.ptr 0 0),(3,.ptr 8 0),(4,.ptr 9 0),(5,.ptr 10 0)] [(9,.cells 1 [.d (.it .i64 (bst t))]),(10,.cells 1 [.d (.bl (smB t))])]
theorem seD(b:Bool)(bad:List Int)(d:Dk)(T:Nat->Nat)(M:List (List D×D))(t:Option Int)
  (hT:FnH Tryz.prog 217 [.d (.fs 36 (d.wait.map QR)),.mp 0] [(0,.mp true true tpT M),(1,.cells 1 [.mp 0])] 2 [1] (.tup [.d (.it .i64 (bst t)),.d (.bl (smB t))]) [(0,.mp true true tpT M),(1,.cells 1 [.mp 0])] 2)
  (hK:K (seM b bad d T M t)):QX Tryz.prog ti 92 1 QTh (seS b bad d T M [(0,.ptr 0 0),(3,.ptr 8 0)] []) K:=by
 refine QX.mid (seM b bad d T M t) ?_ hK;refine QX.of_A mixed (ZG.hoistW QB 0 dkk ?_);conv=>whnf
 refine ZG.hoistW QB 0 dkk ?_;conv=>whnf
 refine ZG.hoistW QB 0 dkk ?_;conv=>whnf
 exact .of_D (dwk (seR b bad d T M t hT (λσ h=>h)) Wk.e)
def seY(t:Option Int):List (Nat×Ob):=[(9,.cells 1 [.d (.it .i64 (bst t))]),(10,.cells 1 [.d (.bl (smB t))])]
def seF:AV:= .fn (.func 218) [] [.ptr 8 0,.ptr 10 0,.ptr 9 0]
def seA(b:Bool)(bad:List Int)(d:Dk)(T:Nat->Nat)(M:List (List D×D))(t:Option Int)(sf:List (List D))(LM:List (List D×D))(k:Nat):S:=⟨[(0,.ptr 0 0),(6,.mp 12),(7,seF),(29,.d (.fs 36 (d.wait.map QR))),(30,.d (.it .i64 (d.wait.length:Nat))),(31,.d (.it .i64 (k:Nat)))],seO b bad d sf++seX T M++seY t++[(12,.mp true false [.it .i64 0] LM)],13⟩
def seB(b:Bool)(bad:List Int)(d:Dk)(T:Nat->Nat)(M:List (List D×D))(t:Option Int)(sf:List (List D))(LM:List (List D×D))(L:List (List D))(k:Nat):S:=⟨[(0,.ptr 0 0),(6,.mp 12),(7,seF),(10,.ts 36 L 13),(56,.d (.fs 36 (d.wait.map QR))),(57,.d (.it .i64 (d.wait.length:Nat))),(58,.d (.it .i64 (k:Nat)))],seO b bad d sf++seX T M++seY t++[(12,.mp true false [.it .i64 0] LM),(13,.tail 49 true)],14⟩
theorem QRg{P:Program}{ti:Nat->Option Ty}(h:QX P ti N 1 ops σ K):QX P ti N 1 ops σ K:=h
theorem QEE{m:List (List UInt8)}{w:Wr}(h:0<=w.a/\w.a<m.length):(m.map QF).take w.a.toNat++[QF w.s]++(m.map QF).drop (w.a.toNat+1)=(QBF m w).map QF:=by
 unfold QBF;rw[if_pos h,Vj,ui,if_pos (by rw[zb];omega)];simp
theorem QEF(m:List (List UInt8))(l:List Wr)(w:Wr):QY m (l++[w])=QBF (QY m l) w:=by unfold QY;rw[vz];rfl
def d1U(j:Nat):Nat:=bif Nat.beq j 1 then 13 else j
def seP(b:Bool)(bad:List Int)(d:Dk)(sf lw:List (List D)):List (Nat×Ob):=[(0,.cells 6 [.mp 3,.d (.it .i64 d.nx),.vx 32 4 0 d.safe.length,.ts 36 lw 1,.ts 38 d.log 2,.d (.it .i64 d.ep)]),(1,.tail 49 true),(2,.tail 110 true),(3,.mp b false [.it .i64 0] (QAG bad)),(4,.vec 37 32 sf false)]
def seZ(b:Bool)(bad:List Int)(d:Dk)(T:Nat->Nat)(M:List (List D×D))(sf lw:List (List D)):S:=⟨[],seP b bad d sf lw++[(5,.mp true true tpT M)]++Qr 6 [0] T,14⟩
theorem QRh(b:Bool)(bad:List Int)(d:Dk)(m:Wr->Bool)(lw:List Wr):Z4 b bad ⟨d.nx,QY d.safe (d.wait.filter m),lw,d.log,d.ep⟩=seP b bad d ((QY d.safe (d.wait.filter m)).map QF) (lw.map QR):=by
 unfold Z4 seP;rw[show(QY d.safe (d.wait.filter m)).length=d.safe.length from Z2 _ _]
theorem QLs(b:Bool)(bad:List Int)(d:Dk)(tags:List (Int×Int))(hb:DB d 100000)(hw:∀w∈d.wait,w.s.length=32)(hr:InR d):
  FnH Tryz.prog 168 [.ptr 0 0,.mp 5] (Z4 b bad d++[(5,.mp true true tpT (mpT tags))]) 6 [0] (.tup [])
   (Z4 b bad ⟨d.nx,QY d.safe (d.wait.filter (JB tags (Zi tags d.wait))),Xm (JB tags (Zi tags d.wait)) d.wait,d.log,d.ep⟩++[(5,.mp true true tpT (mpT tags))]) 6:=by
 have hwl:(d.wait.map QR).length=d.wait.length:=zb ..;have hbw:=hb.w;have hT:=QRS tags d.wait hw om;have hMd:=λw=>QPS tags (Zi tags d.wait) w;generalize Zi tags d.wait=t at*
 generalize hM:mpT tags=M at*
 generalize hm:JB tags t=m at*
 have e0:Z4 b bad d=seO b bad d (d.safe.map QF):=rfl;rw[e0,QRh];refine QL QUd λT=>?_;(repeat' (conv=>whnf);first|((with_reducible refine QRg ?_);refine QX.wk (τ:=seS b bad d T M [(0,.ptr 0 0),(3,.ptr 8 0)] []) Wk.e (seD b bad d T M t hT ?_))|refine OpX.makeMap false [.it .i64 0] rfl rfl ?_|refine QA ?_|intro x hx hu|intro h|apply sS);conv=>whnf
 refine Ql QB (λk:Nat=>k<=d.wait.length) (λk=>seA b bad d T M t ((QY d.safe ((d.wait.take k).filter m)).map QF) (Jd m (d.wait.take k) 0 []) k) (λk=>d.wait.length-k) 0 (z7 _)
  (Wk.vwL (ai (Vw.eq rfl) (ai (Vw.eq rfl) (ai (Vw.eq rfl) (ai (Vw.ts' rfl) (ai (Vw.eq (QK (by rw[hwl]))) (ai (Vw.eq rfl) trivial)))))) (ai (VwO.same _) (ai (VwO.same _) (ai (VwO.same _) (ai (VwO.same _) (ai (VwO.same _) (ai (VwO.same _) (ai (VwO.same _) (ai (VwO.same _) (ai (VwO.same _) (ai (VwO.same _) (ai (VwO.same _) (ai (VwO.same _) trivial)))))))))))) rfl) ?_
 ·intro k hk;by_cases hkl:k<d.wait.length
  ·obtain ⟨w,hx⟩:=Qo hkl;have hws:=hw w (ya hx);have hwr:=hr w (ya hx);have hmd:=hMd w hws;have hf:(d.wait.take (k+1)).filter m=(d.wait.take k).filter m++if m w=true then [w]else []:=by
    rw[QW hx,vr];congr 1;cases hmw:m w<;>simp[hmw]
   have hL:Jd m (d.wait.take (k+1)) 0 []=if m w=true then J8 (Jd m (d.wait.take k) 0 []) [.it .i64 w.a] (.it .i64 (k:Nat))else Jd m (d.wait.take k) 0 []:=by
    rw[QW hx,QCU,zy,ud om,y5]
   have hto:∀ {N:Nat} {σ:S} {sf:List (List D)} {LM:List (List D×D)},(QY d.safe ((d.wait.take (k+1)).filter m)).map QF=sf->Jd m (d.wait.take (k+1)) 0 []=LM->Wk N σ (seA b bad d T M t sf LM (k+1))->Wk N σ (seA b bad d T M t ((QY d.safe ((d.wait.take (k+1)).filter m)).map QF) (Jd m (d.wait.take (k+1)) 0 []) (k+1)):=λh1 h2 q=>by rw[h1,h2];exact q
   have hpl:(QY d.safe ((d.wait.take k).filter m)).length=d.safe.length:=Z2 _ _;generalize (d.wait.take k).filter m=ft at*
   generalize Jd m (d.wait.take k) 0 []=LM at*
   cases hmw:m w with
   |true=>
    rw[hmw]at hmd;rw[if_pos hmw]at hf hL;have hse:=QEE (m:=QY d.safe ft) (w:=w) (by rw[hpl];exact hwr);have h1:(QY d.safe ((d.wait.take (k+1)).filter m)).map QF=((QY d.safe ft).map QF).take (0+w.a.toNat)++[QF w.s]++((QY d.safe ft).map QF).drop (0+w.a.toNat+1):=by rw[y5,hf,QEF,<-hse]
    clear hse hf;generalize hsf:(QY d.safe ft).map QF=sf at*
    have hsl:sf.length=d.safe.length:=by rw[<-hsf,zb,hpl]
    clear hsf;obtain⟨wa,wS,wk,wi,we⟩:=w;obtain⟨g,rfl⟩:=ZO hws;dsimp only at h1 hL hwr;unfold seA;(repeat' (conv=>whnf);first|refine OpX.mapUpdate (kx:= .it .i64 wa) (l:=LM) rfl rfl Tryz.underlying89 Tryz.underlying3 rfl rfl rfl rfl rfl rfl rfl ?_|with_reducible refine Qk hx ?_|with_reducible refine AtA.mk' ?_|refine CallI.h hmd [5,8,9,10] ?_|refine QA ?_|intro x hx hu|intro h|apply sS);all_goals try omega
    exact⟨k+1,hkl,by first|omega|(dsimp only;omega),hto h1 hL (Wk.en (⟨ai rfl (ai rfl (ai rfl (ai rfl (ai rfl (ai (QK om) trivial))))),rr,rfl⟩))⟩
   |false=>
    rw[hmw]at hmd;rw[if_neg (by rw[hmw];decide)]at hf hL;rw[y4]at hf;have h1:(QY d.safe ((d.wait.take (k+1)).filter m)).map QF=(QY d.safe ft).map QF:=by rw[hf]
    clear hf;generalize hsf:(QY d.safe ft).map QF=sf at*
    clear hsf;obtain⟨wa,wS,wk,wi,we⟩:=w;obtain⟨g,rfl⟩:=ZO hws;dsimp only at h1 hL hwr;unfold seA;(repeat' (conv=>whnf);first|with_reducible refine Qk hx ?_|with_reducible refine AtA.mk' ?_|refine CallI.h hmd [5,8,9,10] ?_|refine QA ?_|intro x hx hu|intro h|apply sS);all_goals try omega
    exact⟨k+1,hkl,by first|omega|(dsimp only;omega),hto h1 hL (Wk.en (⟨ai rfl (ai rfl (ai rfl (ai rfl (ai rfl (ai (QK om) trivial))))),rr,rfl⟩))⟩
  ·have hke:d.wait.take k=d.wait:=z8 om;rw[hke];have hlo:=QRQ m d.wait;have hall:=QD4 m d.wait;generalize hLM:Jd m d.wait 0 []=LM at*
   generalize (QY d.safe (d.wait.filter m)).map QF=sf at*
   unfold seA;(repeat' (conv=>whnf);first|refine QA ?_|intro x hx hu|intro h|apply sS);all_goals try omega
   conv=>whnf
   refine Ql QB (λk:Nat=>k<=d.wait.length) (λk=>seB b bad d T M t sf LM ((Yv m d.wait k).map QR) k) (λk=>d.wait.length-k) 0 (z7 _)
    (Wk.vwL (ai (Vw.eq rfl) (ai (Vw.eq rfl) (ai (Vw.eq rfl) (ai (Vw.eq rfl) (ai (Vw.ts' rfl) (ai (Vw.eq (QK (by rw[hwl]))) (ai (Vw.eq rfl) trivial))))))) (ai (VwO.same _) (ai (VwO.same _) (ai (VwO.same _) (ai (VwO.same _) (ai (VwO.same _) (ai (VwO.same _) (ai (VwO.same _) (ai (VwO.same _) (ai (VwO.same _) (ai (VwO.same _) (ai (VwO.same _) (ai (VwO.same _) (ai (VwO.same _) trivial))))))))))))) rfl) ?_
   intro k hk2;by_cases hkl2:k<d.wait.length
   ·obtain ⟨w,hx⟩:=Qo hkl2;have hws:=hw w (ya hx);have hmd:=hMd w hws;obtain⟨kk,bb,hlk,hk3,hk4,hov⟩:=hlo k w hx;have hsu:=QFQ (m:=m) hx;have hln:=QHi m d.wait k;have hto:∀ {N:Nat} {σ:S} {L:List (List D)},(Yv m d.wait (k+1)).map QR=L->Wk N σ (seB b bad d T M t sf LM L (k+1))->Wk N σ (seB b bad d T M t sf LM ((Yv m d.wait (k+1)).map QR) (k+1)):=λh q=>by rw[h];exact q
    generalize Yv m d.wait k=lf at*
    have hlf:(lf.map QR).length=lf.length:=zb ..;have hno:m w=true\/ovB m (d.wait.drop (k+1)) w=true->(Yv m d.wait (k+1)).map QR=lf.map QR:=λh=>by rw[hsu,if_pos h,y4]
    have hye:¬(m w=true\/ovB m (d.wait.drop (k+1)) w=true)->(Yv m d.wait (k+1)).map QR=lf.map QR++[QR w]:=λh=>by rw[hsu,if_neg h,ye];rfl
    clear hsu;cases hmw:m w with
    |true=>
     rw[hmw]at hmd;have h1:=hno (.inl hmw);obtain⟨wa,wS,wk,wi,we⟩:=w;obtain⟨g,rfl⟩:=ZO hws;dsimp only at h1 hlk;unfold seB;(repeat' (conv=>whnf);first|refine OpX.lookupOk (kx:= .it .i64 wa) (l:=LM) rfl rfl Tryz.underlying89 Tryz.underlying3 rfl (λw=>Tryz.zeroValue3 w) (λF=> .it _ _) rfl rfl rfl rfl hlk ?_|with_reducible refine Qk hx ?_|with_reducible refine AtA.mk' ?_|refine CallI.h hmd [5,8,9,10] ?_|refine QA ?_|intro x hx hu|intro h|apply sS);all_goals try omega
     exact⟨k+1,hkl2,by first|omega|(dsimp only;omega),hto h1 (Wk.en (⟨ai rfl (ai rfl (ai rfl (ai rfl (ai rfl (ai rfl (ai (QK om) trivial)))))),rr,rfl⟩))⟩
    |false=>
     rw[hmw]at hmd;have hnt:¬m w=true:=by rw[hmw];decide
     by_cases hb2:bb=true/\(k:Int)<kk
     ·have h1:=hno (.inr (hov.2 hb2));obtain⟨hb3,hk5⟩:=hb2;subst hb3;obtain⟨wa,wS,wk,wi,we⟩:=w;obtain⟨g,rfl⟩:=ZO hws;dsimp only at h1 hlk;unfold seB;(repeat' (conv=>whnf);first|refine OpX.lookupOk (kx:= .it .i64 wa) (l:=LM) rfl rfl Tryz.underlying89 Tryz.underlying3 rfl (λw=>Tryz.zeroValue3 w) (λF=> .it _ _) rfl rfl rfl rfl hlk ?_|with_reducible refine Qk hx ?_|with_reducible refine AtA.mk' ?_|refine CallI.h hmd [5,8,9,10] ?_|refine QA ?_|intro x hx hu|intro h|apply sS);all_goals try omega
      exact⟨k+1,hkl2,by first|omega|(dsimp only;omega),hto h1 (Wk.en (⟨ai rfl (ai rfl (ai rfl (ai rfl (ai rfl (ai rfl (ai (QK om) trivial)))))),rr,rfl⟩))⟩
     ·have h1:=hye (λh=>h.elim hnt (λh=>hb2 (hov.1 h)));have hkb:bb=true->¬(k:Int)<kk:=λh1 h2=>hb2 ⟨h1,h2⟩;clear hb2 hov;obtain⟨wa,wS,wk,wi,we⟩:=w;obtain⟨g,rfl⟩:=ZO hws;dsimp only at h1 hlk;unfold seB;cases bb with
      |true=>
       have hk5:=hkb rfl;(repeat' (conv=>whnf);first|refine OpX.lookupOk (kx:= .it .i64 wa) (l:=LM) rfl rfl Tryz.underlying89 Tryz.underlying3 rfl (λw=>Tryz.zeroValue3 w) (λF=> .it _ _) rfl rfl rfl rfl hlk ?_|with_reducible refine Qk hx ?_|with_reducible refine AtA.mk' ?_|refine CallI.h hmd [5,8,9,10] ?_|refine QA ?_|intro x hx hu|intro h|apply sS);all_goals try omega
       exact⟨k+1,hkl2,by first|omega|(dsimp only;omega),hto h1 (Wk.en (⟨ai rfl (ai rfl (ai rfl (ai rfl (ai rfl (ai rfl (ai (QK om) trivial)))))),rr,rfl⟩))⟩
      |false=>
       (repeat' (conv=>whnf);first|refine OpX.lookupOk (kx:= .it .i64 wa) (l:=LM) rfl rfl Tryz.underlying89 Tryz.underlying3 rfl (λw=>Tryz.zeroValue3 w) (λF=> .it _ _) rfl rfl rfl rfl hlk ?_|with_reducible refine Qk hx ?_|with_reducible refine AtA.mk' ?_|refine CallI.h hmd [5,8,9,10] ?_|refine QA ?_|intro x hx hu|intro h|apply sS);all_goals try omega
       exact⟨k+1,hkl2,by first|omega|(dsimp only;omega),hto h1 (Wk.en (⟨ai rfl (ai rfl (ai rfl (ai rfl (ai rfl (ai rfl (ai (QK om) trivial)))))),rr,rfl⟩))⟩
   ·have hke2:k=d.wait.length:=by omega
    subst hke2;rw[hall];unfold seB;(repeat' (conv=>whnf);first|refine QA ?_|intro x hx hu|intro h|apply sS);all_goals try omega
    conv=>whnf
    refine⟨seZ b bad d T M sf ((Xm m d.wait).map QR),Wk.ren d1U trivial ?_ rfl rfl,rfl,rr,rr⟩;exact rr
def syA(b:Bool)(bad:List Int)(d:Dk)(T:Nat->Nat)(tags:List (Int×Int))(M:List (List D×D))(k:Nat):S:=⟨[(0,.ptr 0 0),(1,.d (.fs 2 (tags.map Qe))),(5,.mp 9),(17,.d (.fs 2 (tags.map Qe))),(18,.d (.it .i64 (tags.length:Nat))),(19,.d (.it .i64 (k:Nat)))],Z4 b bad (tk d)++Qr 5 [0] T++[(9,.mp true true tpT M)],10⟩
theorem QGW(b:Bool)(bad:List Int)(d:Dk)(tags:List (Int×Int))(hne:tags≠[])(htl:tags.length<=1000)(hb:DB d 95000)(hw:∀w∈d.wait,w.s.length=32)(hr:InR d):
  FnH Tryz.prog 115 [.ptr 0 0,.d (.fs 2 (tags.map Qe))] (Z4 b bad d) 5 [0] (.d (.it .i64 (if d.nx∈bad then 3 else 0))) (Z4 b bad (if d.nx∈bad then tk d else QBq tags d)) 5:=by
 have hb1:DB (tk d) 100000:=⟨⟨by have:=hb.nx;show 0<=d.nx+1;omega,by have:=hb.nx;show d.nx+1<=_;omega⟩,by have:=hb.w;show d.wait.length<=_;omega,by have:=hb.l;show d.log.length<=_;omega,hb.s,hb.s0⟩;obtain⟨hn,hwt,hlg,hsl,hs0⟩:=hb;have hl1:(d.safe.map QF).length=d.safe.length:=zb ..;have hl2:(tags.map Qe).length=tags.length:=zb ..;by_cases hbad:d.nx∈bad;all_goals first|rw[if_pos hbad,if_pos hbad]|rw[if_neg hbad,if_neg hbad]
 ·have hb1:bd bad d.nx=1:=if_pos hbad;refine QL QSm λT=>?_;(repeat' (conv=>whnf);first|refine OpX.lookup (kx:= .it .i64 d.nx) rfl rfl Tryz.underlying89 Tryz.underlying3 rfl (λw=>Tryz.zeroValue3 w) (λF=> .it _ _) rfl rfl rfl rfl (QAd bad d.nx) ?_|refine cI i57 ?_|refine cI QLU ?_|refine gOI ?_|intro x hx hu|intro h|apply sS);all_goals try omega
  exact QH
 ·have hb2:bd bad d.nx=0:=if_neg hbad;have hS:=QLs b bad (tk d) tags hb1 hw hr;have hTc:=QHl (tags.map Qe) (by rw[zb];omega);have hSy:QBq tags d=⟨d.nx+1,QY d.safe (d.wait.filter (JB tags (Zi tags d.wait))),Xm (JB tags (Zi tags d.wait)) d.wait,d.log++[evS tags],d.ep⟩:=rfl;rw[hSy];replace hS:FnH Tryz.prog 168 [.ptr 0 0,.mp 5] (Z4 b bad (tk d)++[(5,.mp true true tpT (mpT tags))]) 6 [0] (.tup []) (Z4 b bad ⟨d.nx+1,QY d.safe (d.wait.filter (JB tags (Zi tags d.wait))),Xm (JB tags (Zi tags d.wait)) d.wait,d.log,d.ep⟩++[(5,.mp true true tpT (mpT tags))]) 6:=hS;generalize hsf:QY d.safe (d.wait.filter (JB tags (Zi tags d.wait)))=sf at*
  have hsfl:sf.length=d.safe.length:=by rw[<-hsf];exact Z2 _ _
  generalize Xm (JB tags (Zi tags d.wait)) d.wait=lw at*
  refine QL QSm λT=>?_;(repeat' (conv=>whnf);first|refine OpX.lookup (kx:= .it .i64 d.nx) rfl rfl Tryz.underlying89 Tryz.underlying3 rfl (λw=>Tryz.zeroValue3 w) (λF=> .it _ _) rfl rfl rfl rfl (QAd bad d.nx) ?_|refine OpX.makeMap true tpT rfl rfl ?_|refine cI i57 ?_|refine cI QLU ?_|refine gOI ?_|intro x hx hu|intro h|apply sS);all_goals try omega
  conv=>whnf
  refine Ql QB (λk:Nat=>k<=tags.length) (λk=>syA b bad d T tags (mpT (tags.take k)) k) (λk=>tags.length-k) 0 (z7 _) (Wk.en ⟨ai rfl (ai rfl (ai rfl (ai rfl (ai (QK (by rw[hl2])) rr)))),rr,rfl⟩) ?_;intro k hk;by_cases hkl:k<tags.length
  ·obtain ⟨t,hx⟩:=Qo hkl;have hM:mpT (tags.take (k+1))=QAc (mpT (tags.take k)) (Qe t) (.it .i64 1):=by rw[QW hx,QHg]
   have hto:∀ {N:Nat} {σ:S},Wk N σ (syA b bad d T tags (QAc (mpT (tags.take k)) (Qe t) (.it .i64 1)) (k+1))->Wk N σ (syA b bad d T tags (mpT (tags.take (k+1))) (k+1)):=λh=>by rw[hM];exact h
   generalize mpT (tags.take k)=M at*
   unfold syA;(repeat' (conv=>whnf);first|refine OpX.mapUpdateA (kk:=2) (kx:=Qe t) (l:=M) rfl rfl Tryz.underlying223 QCx rfl rfl rfl rfl rfl rfl ?_|with_reducible refine Qk hx ?_|with_reducible refine AtA.mk' ?_|refine QA ?_|intro x hx hu|intro h|apply sS);all_goals try omega
   exact⟨k+1,hkl,by first|omega|(dsimp only;omega),hto (Wk.en ⟨ai rfl (ai rfl (ai rfl (ai rfl (ai rfl (ai (QK om) trivial))))),rr,rfl⟩)⟩
  ·have hke:tags.take k=tags:=z8 om;rw[hke];unfold syA;(repeat' (conv=>whnf);first|with_reducible refine AtA.mk' ?_|refine gD ?_|refine cEk hTc ?_|refine CallI.h hS [0,1,2,3,4,9] ?_|refine cI QMI ?_|refine gOI ?_|intro x hx hu|intro h|apply sS);all_goals try omega
   exact Qd rfl (ai (QHY rfl rfl rfl rfl) rr) rr
def Yw(f:Int->List UInt8)(p:List UInt8)(kind:Int):Int×Int:=if(Qj f p).2≠0 then(0,(Qj f p).2)else if(Qu f (Qj f p).1).k≠kind then(0,6)else((Qj f p).1,0)
def tgs(ks:List Int)(n:Int):List (Int×Int):=ks.map λk=>(k,n)
def synP(bad:List Int)(d:Dk)(p:List UInt8)(kind:Int)(ks:List Int):Dk×Int:=
 if(Yw (rdS (some d)) p kind).2≠0 then(d,(Yw (rdS (some d)) p kind).2)else if d.nx∈bad then(tk d,3)else(QBq (tgs ks (Yw (rdS (some d)) p kind).1) d,0)
def barP(bad:List Int)(d:Dk):Dk×Int:=if d.nx∈bad then(tk d,3)else(YX d,0)
def QEz(d:Dk)(p:List UInt8):Int×Int:=if(Qj (rdS (some d)) p).2≠0 then(0,(Qj (rdS (some d)) p).2)else(((d.wait.filter λw=>decide (w.i=(Qj (rdS (some d)) p).1)).length:Nat),0)
variable {b:Bool}
variable {bad:List Int}
variable {d:Dk}
theorem QJJ(h:Fd bad d N)(p:List UInt8)(hp:p.length<=100000)(kind:Int):
  FnH Tryz.prog 56 [.ptr 5 0,.d (.st p),.d (.it .i64 kind)] (Qa b bad d) 6 [0,5] (.tup [.d (.it .i64 (Yw (rdS (some d)) p kind).1),.d (.it .i64 (Yw (rdS (some d)) p kind).2)]) (Qa b bad d) 6:=by
 have hL:=Jb (some d) h.ok p hp;have hI:=YG (some d) h.ok (Qj (rdS (some d)) p).1;have hA:Yw (rdS (some d)) p kind=if(Qj (rdS (some d)) p).2≠0 then(0,(Qj (rdS (some d)) p).2)else if(Qu (rdS (some d)) (Qj (rdS (some d)) p).1).k≠kind then(0,6)else((Qj (rdS (some d)) p).1,0):=rfl
 generalize Yw (rdS (some d)) p kind=R at*
 generalize Qu (rdS (some d)) (Qj (rdS (some d)) p).1=x at*
 generalize Qj (rdS (some d)) p=q at*
 obtain⟨n,e⟩:=q;obtain⟨k,z,b0,b1,b2,b3⟩:=x;dsimp only at hA hI hL;replace hI:FnC Tryz.prog 111 [.d (Qg (some d)),.d (.it .i64 n)] (.dg 6 [.it .i64 k,.it .i64 z,.it .i64 b0,.it .i64 b1,.it .i64 b2,.it .i64 b3]):=hI;by_cases c1:e=0
 ·subst c1;rw[if_neg (by decide)]at hA;by_cases c2:k=kind
  ·subst c2;rw[if_neg (λh=>h rfl)]at hA;subst hA;refine QL i56 λT=>?_;(repeat' (conv=>whnf);first|refine cI i11 ?_|refine cI i50 ?_|refine rFk hL ?_|refine rFk hI ?_|refine rFk hL ?_|refine rFk hI ?_|refine gOI ?_|intro x hx hu|intro h|apply sS);all_goals try omega
   all_goals exact QH
  ·rw [if_pos c2]at hA;subst hA;refine QL i56 λT=>?_;(repeat' (conv=>whnf);first|refine cI i11 ?_|refine cI i50 ?_|refine rFk hL ?_|refine rFk hI ?_|refine rFk hL ?_|refine rFk hI ?_|refine gOI ?_|intro x hx hu|intro h|apply sS);all_goals try omega
   all_goals exact QH
 ·rw [if_pos c1]at hA;subst hA;refine QL i56 λT=>?_;(repeat' (conv=>whnf);first|refine cI i11 ?_|refine cI i50 ?_|refine rFk hL ?_|refine rFk hI ?_|refine rFk hL ?_|refine rFk hI ?_|refine gOI ?_|intro x hx hu|intro h|apply sS);all_goals try omega
  all_goals exact QH
theorem QPa(h:Fd bad d N):FnH Tryz.prog 23 [.ptr 5 0] (Qa b bad d) 6 [0,5] (.d (.it .i64 (barP bad d).2)) (Qa b bad (barP bad d).1) 6:=by
 have hW:=QKK b bad d ⟨by have:=h.b.nx;have:=h.hN;omega,by have:=h.b.w;have:=h.hN;omega,by have:=h.b.l;have:=h.hN;omega,h.b.s,h.b.s0⟩ (by have:=h.ep;have:=h.hN;omega);unfold barP;by_cases c:d.nx∈bad
 ·rw [if_pos c,if_pos c]at hW;rw[if_pos c];refine QL i23 λT=>?_;(repeat' (conv=>whnf);first|refine cI i11 ?_|refine cI i50 ?_|refine CallI.h hW [0,1,2,3,4] ?_|refine gOI ?_|intro x hx hu|intro h|apply sS);exact QH
 ·rw [if_neg c,if_neg c]at hW;rw[if_neg c];refine QL i23 λT=>?_;(repeat' (conv=>whnf);first|refine cI i11 ?_|refine cI i50 ?_|refine CallI.h hW [0,1,2,3,4] ?_|refine gOI ?_|intro x hx hu|intro h|apply sS);exact QH
theorem Fd.syn(h:Fd bad d N)(tags:List (Int×Int))(ht:tags.length<=1000)(hM:N+1<=90000):Fd bad (QBq tags d) (N+1):=by
 have hl:∀w∈(QBq tags d).wait,w∈d.wait:=λw hw=>(QCT _ _ w hw).1;have hll:(QBq tags d).wait.length<=d.wait.length:=by
  have key:∀(m:Wr->Bool) (l:List Wr),(Xm m l).length<=l.length:=by
   intro m l;induction l with
   |nil=>exact zt _
   |cons w t ih=>
    unfold Xm;split
    ·rw [yq];omega
    ·rw [yq,yq];omega
  exact key _ _
 have hsl:(QBq tags d).safe.length=d.safe.length:=Z2 _ _;refine⟨λs hs=>?_,λw hw=>h.w w (hl w hw),λw hw=>by rw[hsl];exact h.r w (hl w hw),⟨⟨by have:=h.b.nx;show 0<=d.nx+1;omega,by have:=h.b.nx;show d.nx+1<=_;omega⟩,by have:=h.b.w;omega,?_,by rw[hsl];exact h.b.s,by rw[hsl];exact h.b.s0⟩,by rw[hsl];exact h.n,h.bl,by have:=h.ep;show-((N+1:Nat):Int)<=d.ep/\d.ep<=((N+1:Nat):Int);omega,?_,hM⟩
 ·have key:∀(l:List Wr) (m:List (List UInt8)),(∀w∈l,w.s.length=32)->(∀s∈m,s.length=32)->∀s∈QY m l,s.length=32:=by
   intro l;induction l with
   |nil=>intro m _ hm s hs;exact hm s hs
   |cons w t ih=>
    intro m hl hm s hs;refine ih (QBF m w) (λv hv=>hl v (zk _ hv)) (λs hs=>?_) s hs;unfold QBF at hs;split at hs
    ·rcases uv hs with hs|hs
     ·exact hm s hs
     ·rw [hs];exact hl w zo
    ·exact hm s hs
  exact key _ _ (λw hw=>h.w w (uc.1 hw).1) h.s s hs
 ·show (d.log++[_]).length<=_;rw[zu,xc];have:=h.b.l;omega
 ·exact h.lg.snoc ⟨2,w0,tags⟩ rfl ht
theorem Fd.synP(h:Fd bad d N)(p:List UInt8)(kind:Int)(ks:List Int)(hk:ks.length<=1000)(hM:N+1<=90000):Fd bad (Go.Proofs.YtikgcbioagmkkaaGreatDoor.synP bad d p kind ks).1 (N+1):=by
 unfold Go.Proofs.YtikgcbioagmkkaaGreatDoor.synP;split
 ·exact h.mono om hM
 ·split
  ·exact h.tk hM
  ·exact h.syn _ (by unfold tgs;rw[zb];exact hk) hM
theorem Fd.barP(h:Fd bad d N)(hM:N+1<=90000):Fd bad (Go.Proofs.YtikgcbioagmkkaaGreatDoor.barP bad d).1 (N+1):=by
 unfold Go.Proofs.YtikgcbioagmkkaaGreatDoor.barP;split
 ·exact h.tk hM
 ·exact h.bar hM
theorem QHt(h:Fd bad d N)(p:List UInt8)(hp:p.length<=100000):
  FnH Tryz.prog 14 [.ptr 5 0,.d (.st p)] (Qa b bad d) 6 [0,5] (.d (.it .i64 (synP bad d p 1 [1,2]).2)) (Qa b bad (synP bad d p 1 [1,2]).1) 6:=by
 have hA:=QJJ (b:=b) h p hp 1;have hS:=QGW b bad d (tgs [1,2] (Yw (rdS (some d)) p 1).1) (by intro h;cases h) (by show _<=1000;simp[tgs]) ⟨by have:=h.b.nx;have:=h.hN;omega,by have:=h.b.w;have:=h.hN;omega,by have:=h.b.l;have:=h.hN;omega,h.b.s,h.b.s0⟩ h.w h.r;unfold synP;generalize Yw (rdS (some d)) p 1=q at*
 obtain⟨n,e⟩:=q;dsimp only at*
 by_cases c1:e=0
 ·subst c1;rw[if_neg (by decide)];by_cases c2:d.nx∈bad
  ·rw [if_pos c2,if_pos c2]at hS;rw[if_pos c2];refine QL i14 λT=>?_;(repeat' (conv=>whnf);first|with_reducible refine Q7.unroll QB 3 ?_|refine CallI.h hA [0,1,2,3,4,5] ?_|refine CallI.hp hS [0,1,2,3,4] ?_|refine cI i55 ?_|refine cI QCJ ?_|refine cI i11 ?_|refine cI i50 ?_|refine gOI ?_|intro x hx hu|intro h|apply sS);all_goals try omega
   all_goals exact QH
  ·rw [if_neg c2,if_neg c2]at hS;rw[if_neg c2];generalize QBq (tgs [1,2] n) d=D2 at*
   refine QL i14 λT=>?_;(repeat' (conv=>whnf);first|with_reducible refine Q7.unroll QB 3 ?_|refine CallI.h hA [0,1,2,3,4,5] ?_|refine CallI.hp hS [0,1,2,3,4] ?_|refine cI i55 ?_|refine cI QCJ ?_|refine cI i11 ?_|refine cI i50 ?_|refine gOI ?_|intro x hx hu|intro h|apply sS);all_goals try omega
   all_goals exact QH
 ·rw [if_pos c1];refine QL i14 λT=>?_;(repeat' (conv=>whnf);first|with_reducible refine Q7.unroll QB 3 ?_|refine CallI.h hA [0,1,2,3,4,5] ?_|refine CallI.hp hS [0,1,2,3,4] ?_|refine cI i55 ?_|refine cI QCJ ?_|refine cI i11 ?_|refine cI i50 ?_|refine gOI ?_|intro x hx hu|intro h|apply sS);all_goals try omega
  all_goals exact QH
theorem QNV(h:Fd bad d N)(p:List UInt8)(hp:p.length<=100000):
  FnH Tryz.prog 22 [.ptr 5 0,.d (.st p)] (Qa b bad d) 6 [0,5] (.d (.it .i64 (synP bad d p 1 [1]).2)) (Qa b bad (synP bad d p 1 [1]).1) 6:=by
 have hA:=QJJ (b:=b) h p hp 1;have hS:=QGW b bad d (tgs [1] (Yw (rdS (some d)) p 1).1) (by intro h;cases h) (by show _<=1000;simp[tgs]) ⟨by have:=h.b.nx;have:=h.hN;omega,by have:=h.b.w;have:=h.hN;omega,by have:=h.b.l;have:=h.hN;omega,h.b.s,h.b.s0⟩ h.w h.r;unfold synP;generalize Yw (rdS (some d)) p 1=q at*
 obtain⟨n,e⟩:=q;dsimp only at*
 by_cases c1:e=0
 ·subst c1;rw[if_neg (by decide)];by_cases c2:d.nx∈bad
  ·rw [if_pos c2,if_pos c2]at hS;rw[if_pos c2];refine QL i22 λT=>?_;(repeat' (conv=>whnf);first|with_reducible refine Q7.unroll QB 2 ?_|refine CallI.h hA [0,1,2,3,4,5] ?_|refine CallI.hp hS [0,1,2,3,4] ?_|refine cI i55 ?_|refine cI QCJ ?_|refine cI i11 ?_|refine cI i50 ?_|refine gOI ?_|intro x hx hu|intro h|apply sS);all_goals try omega
   all_goals exact QH
  ·rw [if_neg c2,if_neg c2]at hS;rw[if_neg c2];generalize QBq (tgs [1] n) d=D2 at*
   refine QL i22 λT=>?_;(repeat' (conv=>whnf);first|with_reducible refine Q7.unroll QB 2 ?_|refine CallI.h hA [0,1,2,3,4,5] ?_|refine CallI.hp hS [0,1,2,3,4] ?_|refine cI i55 ?_|refine cI QCJ ?_|refine cI i11 ?_|refine cI i50 ?_|refine gOI ?_|intro x hx hu|intro h|apply sS);all_goals try omega
   all_goals exact QH
 ·rw [if_pos c1];refine QL i22 λT=>?_;(repeat' (conv=>whnf);first|with_reducible refine Q7.unroll QB 2 ?_|refine CallI.h hA [0,1,2,3,4,5] ?_|refine CallI.hp hS [0,1,2,3,4] ?_|refine cI i55 ?_|refine cI QCJ ?_|refine cI i11 ?_|refine cI i50 ?_|refine gOI ?_|intro x hx hu|intro h|apply sS);all_goals try omega
  all_goals exact QH
theorem QKe(h:Fd bad d N)(p:List UInt8)(hp:p.length<=100000):
  FnH Tryz.prog 15 [.ptr 5 0,.d (.st p)] (Qa b bad d) 6 [0,5] (.d (.it .i64 (synP bad d p 2 [3,2]).2)) (Qa b bad (synP bad d p 2 [3,2]).1) 6:=by
 have hA:=QJJ (b:=b) h p hp 2;have hS:=QGW b bad d (tgs [3,2] (Yw (rdS (some d)) p 2).1) (by intro h;cases h) (by show _<=1000;simp[tgs]) ⟨by have:=h.b.nx;have:=h.hN;omega,by have:=h.b.w;have:=h.hN;omega,by have:=h.b.l;have:=h.hN;omega,h.b.s,h.b.s0⟩ h.w h.r;unfold synP;generalize Yw (rdS (some d)) p 2=q at*
 obtain⟨n,e⟩:=q;dsimp only at*
 by_cases c1:e=0
 ·subst c1;rw[if_neg (by decide)];by_cases c2:d.nx∈bad
  ·rw [if_pos c2,if_pos c2]at hS;rw[if_pos c2];refine QL i15 λT=>?_;(repeat' (conv=>whnf);first|with_reducible refine Q7.unroll QB 3 ?_|refine CallI.h hA [0,1,2,3,4,5] ?_|refine CallI.hp hS [0,1,2,3,4] ?_|refine cI i55 ?_|refine cI QCJ ?_|refine cI i11 ?_|refine cI i50 ?_|refine gOI ?_|intro x hx hu|intro h|apply sS);all_goals try omega
   all_goals exact QH
  ·rw [if_neg c2,if_neg c2]at hS;rw[if_neg c2];generalize QBq (tgs [3,2] n) d=D2 at*
   refine QL i15 λT=>?_;(repeat' (conv=>whnf);first|with_reducible refine Q7.unroll QB 3 ?_|refine CallI.h hA [0,1,2,3,4,5] ?_|refine CallI.hp hS [0,1,2,3,4] ?_|refine cI i55 ?_|refine cI QCJ ?_|refine cI i11 ?_|refine cI i50 ?_|refine gOI ?_|intro x hx hu|intro h|apply sS);all_goals try omega
   all_goals exact QH
 ·rw [if_pos c1];refine QL i15 λT=>?_;(repeat' (conv=>whnf);first|with_reducible refine Q7.unroll QB 3 ?_|refine CallI.h hA [0,1,2,3,4,5] ?_|refine CallI.hp hS [0,1,2,3,4] ?_|refine cI i55 ?_|refine cI QCJ ?_|refine cI i11 ?_|refine cI i50 ?_|refine gOI ?_|intro x hx hu|intro h|apply sS);all_goals try omega
  all_goals exact QH
end Go.Proofs.YtikgcbioagmkkaaGreatDoor
