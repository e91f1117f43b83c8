/-
  FOR EVERY CODE the law FnTick returns true: a verdict's tick is that of the first fault. No condition.
-/
import Derived.Test.YtpmjcjoeckajgaaGreatLawTick
import Derived.Test.YtpmjcjoeckajgaaGreatZHead
import Derived.Test.YtpmjcjoeckajgaaGreatFrameC
import Derived.Test.YtpmjcjoeckajgaaGreatHead
namespace Go.Proofs.YtpmjcjoeckajgaaGreat
open Go.ChangeShapes Go.WideShapes Go.ChangeAt Go.RowKit
set_option maxRecDepth 100000 in
theorem Qxd:Qah 5 Tryz.f5:=by
 intro H enc W base args ds ps hval hA hlt _ tp
 rw[Tryz.params5] at hA hval
 obtain⟨v0,vs0,d0,ds0,p0,q0,hargs,rfl,rfl,h0,r0⟩:=trodAll_cons hA
 obtain⟨rfl,rfl,rfl⟩:=trodAll_nil r0
 obtain rfl:args= #[v0]:=by cases args;simp_all
 obtain⟨A0,n0,c0,rfl⟩:=okWide_slice Tryz.underlying61 (hval 0 61 v0 rfl rfl)
 obtain⟨l0,s0,g0,m0⟩:=QO h0
 exact Jb (QrH A0 n0 c0 l0 _ (Xn s0) (fun x hx=>Q0 (g0 x hx)) (Nat.le_trans m0.1 m0.2) m0.1 m0.2)
set_option maxRecDepth 100000 in
theorem QsJ(os:Os)(started:os.Started)(H:Type)(enc:TypeId×Value→H):
 ReturnsInLeavingWide {} Tryz.checked os 5 .any (Rows.fnTickSpec.pre6 enc Tryz.prog Tryz.f5 Rows.fnTickRow.domain false) (Rows.fnTickSpec.post enc Tryz.prog Tryz.f5 false true false false):=
 QaL (s:=Rows.fnTickSpec) (tb:=4) os started H enc (by kernel_rfl) Tryz.func5 Sq.func5 (by decide) (by kernel_rfl) Tryz.results5 (by kernel_rfl) (by kernel_rfl) Tryz.underlying4 rfl (fun ds hl=>by
  match ds,hl with
  |[d0],_=>rfl)
  (ChangeSpec.witness6 (enc:=enc) (C:= Tryz.checked) false ⟨#[],#[.slice none 0 0],[]⟩ 8 (by kernel_rfl) (by kernel_rfl) (by kernel_rfl) (by kernel_rfl)) Qxd
theorem Qn8:joinedFacts Tryz.pinned.checked.prog 5 Tryz.f5 Rows.fnTickSpec Rows.fnTickRow=true:=by
 show joinedFacts Tryz.prog 5 Tryz.f5 Rows.fnTickSpec Rows.fnTickRow=true
 obtain⟨P,hP⟩: ∃P, Tryz.prog=P:=⟨_,rfl⟩
 rw[hP]
 have h1:P.mayEnter=true:=hP ▸ mayEnter_
 have h2:P.liftsFinal=false:=hP ▸ lifts_
 have h3:P.make=some Make.cut:=hP ▸ make_
 unfold joinedFacts
 rw[h1,h2,h3,←hP]
 show _=true
 kernel_rfl
theorem Tick_holds:Rows.FnTickSaid:=
 OpenClaim.holds_of_wide_leaving 5 Tryz.f5 rfl rfl rfl rfl rfl rfl rfl ⟨rfl,rfl,rfl,rfl,rfl⟩ rfl rfl rfl rfl rfl (by kernel_rfl) Tryz.func5 Qn8
  (of_decide_eq_true (by kernel_rfl)) (by unfold Func.isWrapper;first|(rw[if_pos (by decide+kernel)];kernel_rfl)|(rw[if_neg (by decide+kernel)];exact⟨rfl,rfl⟩))
  (fun os started H enc _=>QsJ os started H enc)
end Go.Proofs.YtpmjcjoeckajgaaGreat
