/-
  FOR ALL LISTS OF HASHES the law FnExactDivergeCount returns true: the program, by as many goroutines as the lists ask for, and the reference count alike; the arguments stand. No condition.
-/
import Derived.Test.YtahnegggamlkeaaLawDivergeCountX
import Derived.Test.YtahnegggamlkeaaZBase
import Derived.Test.YtahnegggamlkeaaZHead
import Derived.Test.YtahnegggamlkeaaFrameC
import Derived.Test.YtahnegggamlkeaaHead
namespace Go.Proofs.Ytahnegggamlkeaa
open Go.ChangeShapes Go.WideShapes Go.ChangeAt Go.RowKit
set_option maxRecDepth 100000 in
theorem QC9:Qah 4 Try.f4:=by
 intro H enc W base args ds ps hval hA hlt _ tp
 rw[Try.params4] at hA hval
 obtain⟨v0,vs0,d0,ds0,p0,q0,hargs,rfl,rfl,h0,r0⟩:=trodAll_cons hA
 obtain⟨v1,vs1,d1,ds1,p1,q1,rfl,rfl,rfl,h1,r1⟩:=trodAll_cons r0
 obtain⟨rfl,rfl,rfl⟩:=trodAll_nil r1
 obtain rfl:args= #[v0,v1]:=by cases args;simp_all
 obtain⟨A0,n0,c0,rfl⟩:=okWide_slice Try.underlying22 (hval 0 22 v0 rfl rfl)
 obtain⟨l0,s0,g0,m0⟩:=Qth h0
 obtain⟨A1,n1,c1,rfl⟩:=okWide_slice Try.underlying22 (hval 1 22 v1 rfl rfl)
 obtain⟨l1,s1,g1,m1⟩:=Qth h1
 exact Jb (QC5 A0 A1 n0 n1 c0 c1 l0 l1 _ (Xn s0) (Xn s1) (Nat.le_trans m0.1 m0.2) (Nat.le_trans m1.1 m1.2))
set_option maxRecDepth 100000 in
theorem QC7(os:Os)(started:os.Started)(H:Type)(enc:TypeId×Value→H):
 ReturnsInLeavingWide {} Try.checked os 4 .any (Rows.fnExactDivergeCountSpec.pre6 enc Try.prog Try.f4 Rows.fnExactDivergeCountRow.domain false) (Rows.fnExactDivergeCountSpec.post enc Try.prog Try.f4 false true false false):=
 QaL (s:=Rows.fnExactDivergeCountSpec) (tb:=4) os started H enc (by kernel_rfl) Try.func4 Sq.func4 (by decide) (by kernel_rfl) Try.results4 (by kernel_rfl) (by kernel_rfl) Try.underlying4 rfl (fun ds hl=>by
  match ds,hl with
  |[d0,d1],_=>rfl)
  (ChangeSpec.witness6 (enc:=enc) (C:= Try.checked) false ⟨#[],#[.slice none 0 0,.slice none 0 0],[]⟩ 8 (by kernel_rfl) (by kernel_rfl) (by kernel_rfl) (by kernel_rfl)) QC9
theorem QC3:joinedFacts Try.pinned.checked.prog 4 Try.f4 Rows.fnExactDivergeCountSpec Rows.fnExactDivergeCountRow=true:=by
 show joinedFacts Try.prog 4 Try.f4 Rows.fnExactDivergeCountSpec Rows.fnExactDivergeCountRow=true
 obtain⟨P,hP⟩: ∃P, Try.prog=P:=⟨_,rfl⟩
 rw[hP]
 have h1:P.mayEnter=true:=hP ▸ mayEnter_
 have h2:P.liftsFinal=false:=hP ▸ lifts_
 have h3:P.make=some Make.cut:=hP ▸ make_
 unfold joinedFacts
 rw[h1,h2,h3,←hP]
 show _=true
 kernel_rfl
theorem DivergeCountX_holds:Rows.FnExactDivergeCountSaid:=
 OpenClaim.holds_of_wide_leaving 4 Try.f4 rfl rfl rfl rfl rfl rfl rfl ⟨rfl,rfl,rfl,rfl,rfl⟩ rfl rfl rfl rfl rfl (by kernel_rfl) Try.func4 QC3
  (of_decide_eq_true (by kernel_rfl)) (by unfold Func.isWrapper;first|(rw[if_pos (by decide+kernel)];kernel_rfl)|(rw[if_neg (by decide+kernel)];exact⟨rfl,rfl⟩))
  (fun os started H enc _=>QC7 os started H enc)
end Go.Proofs.Ytahnegggamlkeaa
