/-
  FOR EVERY CODE, the nine sentinels lying as they are laid, the law FnFineMore returns true: what follows the finish is not accepted. No other condition.
-/
import Derived.Test.YtpmjcjoeckajgaaGreatDoorLawFineMore
import Derived.Test.YtpmjcjoeckajgaaGreatDoorZHead
import Derived.Test.YtpmjcjoeckajgaaGreatDoorFrameE
import Derived.Test.YtpmjcjoeckajgaaGreatDoorTie
import Derived.Test.YtpmjcjoeckajgaaGreatDoorCards
import Derived.LaidMore
import Derived.LaidHandle
import Derived.SevenTiedAt
import Derived.Test.YtpmjcjoeckajgaaGreatDoorHead
namespace Go.Proofs.YtpmjcjoeckajgaaGreatDoor
open Go.ChangeShapes Go.WideShapes Go.ChangeAt Go.RowKit
set_option maxRecDepth 100000 in
theorem Qwt:Qbg 4 Tryz.f4:=by
 intro H enc W base args ds ps az hval hA hlt _ hS tp
 rw[Tryz.params4] at hA hval
 obtain⟨v0,vs0,d0,ds0,p0,q0,hargs,rfl,rfl,h0,r0⟩:=trodAll_cons hA
 obtain⟨rfl,rfl,rfl⟩:=trodAll_nil r0
 obtain rfl:args= #[v0]:=by cases args;simp_all
 obtain⟨A0,n0,c0,rfl⟩:=okWide_slice Tryz.underlying22 (hval 0 22 v0 rfl rfl)
 obtain⟨l0,s0,g0,m0⟩:=QO h0
 exact Jb (QqY az A0 n0 c0 l0 _ (Xn s0) (fun x hx=>Q0 (g0 x hx)) (Nat.le_trans m0.1 m0.2) m0.1 m0.2 (hS tp))
set_option maxRecDepth 100000 in
theorem Qr0(os:Os)(started:os.Started)(H:Type)(enc:TypeId×Value→H):
 ReturnsInLeavingWide {} Tryz.checked os 4 .any (fun w args=>(Rows.fnFineMoreSpec.pre enc Tryz.prog Tryz.f4 [] false w args∧laidMet Tryz.prog Rows.fnMakeOpenRow.laid w)∧sizedMet enc Tryz.prog Tryz.f4 (OpenSpec.ofChange Rows.fnFineMoreSpec) false w args) (Rows.fnFineMoreSpec.post enc Tryz.prog Tryz.f4 false true false false):=
 Qcl (s:=Rows.fnFineMoreSpec) (tb:=4) os started (by kernel_rfl) Tryz.func4 Sq.func4 (by decide) (by kernel_rfl) Tryz.results4 (by kernel_rfl) (by kernel_rfl) Tryz.underlying4 rfl (fun ds gs hl hg=>by
  match ds,hl,gs,hg with
  |[d0],_,[g1,g2,g3,g4,g5,g6,g7,g8,g9],_=>rfl)
  (ChangeSpec.witness_shaped (enc:=enc) (C:= Tryz.checked) (os:=os) (X:=fun w _=>laidMet Tryz.prog Rows.fnMakeOpenRow.laid w) false (World.doorLaid Tryz.prog 400 os) #[.slice none 0 0] 8 rfl (World.shaped_of_RefB (by kernel_rfl) (by kernel_rfl)) (by kernel_rfl) (by kernel_rfl) (by kernel_rfl) (QbU os _)) Qwt
theorem Qnm:joinedFacts Tryz.pinned.checked.prog 4 Tryz.f4 Rows.fnFineMoreSpec Rows.fnFineMoreRow=true:=by
 show joinedFacts Tryz.prog 4 Tryz.f4 Rows.fnFineMoreSpec Rows.fnFineMoreRow=true
 obtain⟨P,hP⟩: ∃P, Tryz.prog=P:=⟨_,rfl⟩
 rw[hP]
 have h1:P.mayEnter=true:=hP ▸ mayEnter_
 have h2:P.liftsFinal=false:=hP ▸ lifts_
 have h3:P.make=some Make.cut:=hP ▸ make_
 unfold joinedFacts
 rw[h1,h2,h3,←hP]
 show _=true
 kernel_rfl
theorem Ql2:Rows.FnFineMoreSaid:=
 OpenClaim.holds_of_wide_leaving 4 Tryz.f4 rfl rfl rfl rfl rfl rfl rfl ⟨rfl,rfl,rfl,rfl,rfl⟩ rfl rfl rfl rfl rfl (by kernel_rfl) Tryz.func4 Qnm
  (of_decide_eq_true (by kernel_rfl)) (by unfold Func.isWrapper;first|(rw[if_pos (by decide+kernel)];kernel_rfl)|(rw[if_neg (by decide+kernel)];exact⟨rfl,rfl⟩))
  (fun os started H enc _=>Qr0 os started H enc)
set_option maxRecDepth 100000 in
theorem FineMore_holds:Rows.FnFineMoreCardSaid:=
 QcI _ true _ true Ql2 (by kernel_rfl) fnFineMore_row_tie rfl ⟨rfl,rfl⟩ (by kernel_rfl) rfl
  (fun f fn hf hfn=>by
    obtain rfl:f=4:=Option.some.inj ((show Tryz.prog.funcNamed Rows.fnFineMoreRow.func=some 4 by kernel_rfl).symm.trans hf) |>.symm
    obtain rfl:fn= Tryz.f4:=(Option.some.inj (Tryz.func4.symm.trans hfn)).symm
    exact⟨by kernel_rfl,fun j t ht=>by
     rw[Tryz.params4] at ht
     have hm:t∈ [22]:=by simpa using Array.mem_of_getElem? ht
     have hall:([22].all fun u=> !Tryz.prog.wantsStandIn u)=true:=by kernel_rfl
     exact(show Tryz.prog.wantsStandIn t=false by simpa using List.all_eq_true.1 hall t hm)⟩)
  (by kernel_rfl)
end Go.Proofs.YtpmjcjoeckajgaaGreatDoor
