/-
  FOR ALL LEVELS, INPUTS AND CLAIMED HASHES the law FnExactDivergeReport returns true: the program, by as many goroutines as the lists ask for, and the reference report alike; the arguments stand. No condition.
-/
import Derived.Test.YtgaimkihacljdaaGreatLawDivergeReportX
import Derived.Test.YtgaimkihacljdaaGreatZBase
import Derived.Test.YtgaimkihacljdaaGreatZHead
import Derived.Test.YtgaimkihacljdaaGreatFrameC
import Derived.Test.YtgaimkihacljdaaGreatHead
namespace Go.Proofs.YtgaimkihacljdaaGreat
open Go.ChangeShapes Go.WideShapes Go.ChangeAt Go.RowKit
set_option maxRecDepth 100000 in
theorem QDf:Qah 3 Tryz.f3:=by
 intro H enc W base args ds ps hval hA hlt _ tp
 rw[Tryz.params3] at hA hval
 obtain⟨v0,vs0,d0,ds0,p0,q0,hargs,rfl,rfl,h0,r0⟩:=trodAll_cons hA
 obtain⟨v1,vs1,d1,ds1,p1,q1,rfl,rfl,rfl,h1,r1⟩:=trodAll_cons r0
 obtain⟨v2,vs2,d2,ds2,p2,q2,rfl,rfl,rfl,h2,r2⟩:=trodAll_cons r1
 obtain⟨rfl,rfl,rfl⟩:=trodAll_nil r2
 obtain rfl:args= #[v0,v1,v2]:=by cases args;simp_all
 obtain⟨l0,A0,B0,c0,e0,rfl,s0,u0,m0,k0⟩:=Qct (hval 0 28 v0 rfl rfl) h0
 obtain⟨A1,n1,c1,rfl⟩:=okWide_slice Tryz.underlying29 (hval 1 29 v1 rfl rfl)
 obtain⟨l1,s1,g1,m1⟩:=Qcs h1
 obtain⟨A2,n2,c2,rfl⟩:=okWide_slice Tryz.underlying30 (hval 2 30 v2 rfl rfl)
 obtain⟨l2,s2,g2,m2⟩:=Qth h2
 exact Jb (QDd l0 l1 l2 A0 B0 A1 A2 n1 n2 c0 e0 c1 c2 _ (Xn s0) (Xn u0) (Xn s1) (Xn s2) m0 k0 (Nat.le_trans m1.1 m1.2) (Nat.le_trans m2.1 m2.2))
set_option maxRecDepth 100000 in
theorem QDe(os:Os)(started:os.Started)(H:Type)(enc:TypeId×Value→H):
 ReturnsInLeavingWide {} Tryz.checked os 3 .any (Rows.fnExactDivergeReportSpec.pre6 enc Tryz.prog Tryz.f3 Rows.fnExactDivergeReportRow.domain false) (Rows.fnExactDivergeReportSpec.post enc Tryz.prog Tryz.f3 false true false false):=
 QaL (s:=Rows.fnExactDivergeReportSpec) (tb:=4) os started H enc (by kernel_rfl) Tryz.func3 Sq.func3 (by decide) (by kernel_rfl) Tryz.results3 (by kernel_rfl) (by kernel_rfl) Tryz.underlying4 rfl (fun ds hl=>by
  match ds,hl with
  |[d0,d1,d2],_=>rfl)
  (ChangeSpec.witness6 (enc:=enc) (C:= Tryz.checked) false ⟨#[],#[.agg #[.int .i64 0,.int .i64 0,.int .i64 0,.int .i64 0,.slice none 0 0,.slice none 0 0,.int .i64 0,.int .i64 0,.int .i64 0,.int .i64 0,.int .i64 0],.slice none 0 0,.slice none 0 0],[]⟩ 8 (by kernel_rfl) (by kernel_rfl) (by kernel_rfl) (by kernel_rfl)) QDf
theorem QDb:joinedFacts Tryz.pinned.checked.prog 3 Tryz.f3 Rows.fnExactDivergeReportSpec Rows.fnExactDivergeReportRow=true:=by
 show joinedFacts Tryz.prog 3 Tryz.f3 Rows.fnExactDivergeReportSpec Rows.fnExactDivergeReportRow=true
 obtain⟨P,hP⟩: ∃P, Tryz.prog=P:=⟨_,rfl⟩
 rw[hP]
 have h1:P.mayEnter=true:=hP ▸ mayEnter_
 have h2:P.liftsFinal=false:=hP ▸ lifts_
 have h3:P.make=some Make.cut:=hP ▸ make_
 unfold joinedFacts
 rw[h1,h2,h3,←hP]
 show _=true
 kernel_rfl
theorem DivergeReportX_holds:Rows.FnExactDivergeReportSaid:=
 OpenClaim.holds_of_wide_leaving 3 Tryz.f3 rfl rfl rfl rfl rfl rfl rfl ⟨rfl,rfl,rfl,rfl,rfl⟩ rfl rfl rfl rfl rfl (by kernel_rfl) Tryz.func3 QDb
  (of_decide_eq_true (by kernel_rfl)) (by unfold Func.isWrapper;first|(rw[if_pos (by decide+kernel)];kernel_rfl)|(rw[if_neg (by decide+kernel)];exact⟨rfl,rfl⟩))
  (fun os started H enc _=>QDe os started H enc)
end Go.Proofs.YtgaimkihacljdaaGreat
