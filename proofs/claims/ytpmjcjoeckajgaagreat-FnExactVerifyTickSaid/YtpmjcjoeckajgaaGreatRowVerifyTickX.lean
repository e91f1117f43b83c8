/-
  FOR EVERY LEVEL AND EVERY REPLAY the law FnExactVerifyTick returns true: the program's VerifyTick and the reference's answer alike; the arguments stand. No condition.
-/
import Derived.Test.YtpmjcjoeckajgaaGreatLawVerifyTickX
import Derived.Test.YtpmjcjoeckajgaaGreatZHead
import Derived.Test.YtpmjcjoeckajgaaGreatFrameC
import Derived.Test.YtpmjcjoeckajgaaGreatHead
namespace Go.Proofs.YtpmjcjoeckajgaaGreat
open Go.ChangeShapes Go.WideShapes Go.ChangeAt Go.RowKit
set_option maxRecDepth 100000 in
theorem Qxg:Qah 4 Tryz.f4:=by
 intro H enc W base args ds ps hval hA hlt _ tp
 rw[Tryz.params4] at hA hval
 obtain⟨v0,vs0,d0,ds0,p0,q0,hargs,rfl,rfl,h0,r0⟩:=trodAll_cons hA
 obtain⟨v1,vs1,d1,ds1,p1,q1,rfl,rfl,rfl,h1,r1⟩:=trodAll_cons r0
 obtain⟨rfl,rfl,rfl⟩:=trodAll_nil r1
 obtain rfl:args= #[v0,v1]:=by cases args;simp_all
 obtain⟨l0,A0,B0,c0,e0,rfl,s0,u0,m0,k0⟩:=Qct (hval 0 28 v0 rfl rfl) h0
 obtain⟨lv1,pl1,sc1,tag1,ins1,hs1,A1,B1,c1,e1,rfl,s1,u1,m1,k1,g1⟩:=QeR (hval 1 53 v1 rfl rfl) h1
 exact Jb (QrK l0 ⟨lv1,pl1,sc1,ins1,hs1,tag1⟩ A0 B0 A1 B1 c0 e0 c1 e1 _ (Xn s0) (Xn u0) (Xn s1) (Xn u1) m0 k0 m1 k1)
set_option maxRecDepth 100000 in
theorem QsM(os:Os)(started:os.Started)(H:Type)(enc:TypeId×Value→H):
 ReturnsInLeavingWide {} Tryz.checked os 4 .any (Rows.fnExactVerifyTickSpec.pre6 enc Tryz.prog Tryz.f4 Rows.fnExactVerifyTickRow.domain false) (Rows.fnExactVerifyTickSpec.post enc Tryz.prog Tryz.f4 false true false false):=
 QaL (s:=Rows.fnExactVerifyTickSpec) (tb:=4) os started H enc (by kernel_rfl) Tryz.func4 Sq.func4 (by decide) (by kernel_rfl) Tryz.results4 (by kernel_rfl) (by kernel_rfl) Tryz.underlying4 rfl (fun ds hl=>by
  match ds,hl with
  |[d0,d1],_=>rfl)
  (ChangeSpec.witness6 (enc:=enc) (C:= Tryz.checked) false ⟨#[],#[.agg #[.int .i64 0,.int .i64 0,.int .i64 0,.int .i64 0,.slice none 0 0,.slice none 0 0,.int .i64 0,.int .i64 0,.int .i64 0,.int .i64 0,.int .i64 0],.agg #[.int .i64 0,.int .i64 0,.int .i64 0,.slice none 0 0,.slice none 0 0,.int .i64 0]],[]⟩ 8 (by kernel_rfl) (by kernel_rfl) (by kernel_rfl) (by kernel_rfl)) Qxg
theorem Qob:joinedFacts Tryz.pinned.checked.prog 4 Tryz.f4 Rows.fnExactVerifyTickSpec Rows.fnExactVerifyTickRow=true:=by
 show joinedFacts Tryz.prog 4 Tryz.f4 Rows.fnExactVerifyTickSpec Rows.fnExactVerifyTickRow=true
 obtain⟨P,hP⟩: ∃P, Tryz.prog=P:=⟨_,rfl⟩
 rw[hP]
 have h1:P.mayEnter=true:=hP ▸ mayEnter_
 have h2:P.liftsFinal=false:=hP ▸ lifts_
 have h3:P.make=some Make.cut:=hP ▸ make_
 unfold joinedFacts
 rw[h1,h2,h3,←hP]
 show _=true
 kernel_rfl
theorem VerifyTickX_holds:Rows.FnExactVerifyTickSaid:=
 OpenClaim.holds_of_wide_leaving 4 Tryz.f4 rfl rfl rfl rfl rfl rfl rfl ⟨rfl,rfl,rfl,rfl,rfl⟩ rfl rfl rfl rfl rfl (by kernel_rfl) Tryz.func4 Qob
  (of_decide_eq_true (by kernel_rfl)) (by unfold Func.isWrapper;first|(rw[if_pos (by decide+kernel)];kernel_rfl)|(rw[if_neg (by decide+kernel)];exact⟨rfl,rfl⟩))
  (fun os started H enc _=>QsM os started H enc)
end Go.Proofs.YtpmjcjoeckajgaaGreat
