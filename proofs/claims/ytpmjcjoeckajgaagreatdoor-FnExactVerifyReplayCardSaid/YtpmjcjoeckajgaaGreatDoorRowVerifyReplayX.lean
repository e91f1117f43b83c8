/-
  FOR EVERY LEVEL, EVERY KEY AND EVERY REPLAY, the nine sentinels lying as they are laid, the law FnExactVerifyReplay returns true: the program's VerifyReplay and the reference's answer alike; the arguments stand. No other condition.
-/
import Derived.Test.YtpmjcjoeckajgaaGreatDoorLawVerifyReplayX
import Derived.Test.YtpmjcjoeckajgaaGreatDoorZHead
import Derived.Test.YtpmjcjoeckajgaaGreatDoorFrameE
import Derived.Test.YtpmjcjoeckajgaaGreatDoorTie
import Derived.Test.YtpmjcjoeckajgaaGreatDoorCards
import Derived.LaidMore
import Derived.LaidHandle
import Derived.SevenTiedAt
import Derived.Test.YtpmjcjoeckajgaaGreatDoorHead
namespace Go.Proofs.YtpmjcjoeckajgaaGreatDoor
open Go.ChangeShapes Go.WideShapes Go.ChangeAt Go.RowKit
set_option maxRecDepth 100000 in
theorem Qxt:Qbg 9 Tryz.f9:=by
 intro H enc W base args ds ps az hval hA hlt _ hS tp
 rw[Tryz.params9] at hA hval
 obtain⟨v0,vs0,d0,ds0,p0,q0,hargs,rfl,rfl,h0,r0⟩:=trodAll_cons hA
 obtain⟨v1,vs1,d1,ds1,p1,q1,rfl,rfl,rfl,h1,r1⟩:=trodAll_cons r0
 obtain⟨v2,vs2,d2,ds2,p2,q2,rfl,rfl,rfl,h2,r2⟩:=trodAll_cons r1
 obtain⟨rfl,rfl,rfl⟩:=trodAll_nil r2
 obtain rfl:args= #[v0,v1,v2]:=by cases args;simp_all
 obtain⟨l0,A0,B0,c0,e0,rfl,s0,u0,m0,k0⟩:=Qct (hval 0 55 v0 rfl rfl) h0
 obtain⟨a1,rfl,rfl,rfl,w1⟩:=open_int Tryz.underlying3 (hval 1 3 v1 rfl rfl) h1
 obtain⟨lv2,pl2,sc2,tag2,ins2,hs2,A2,B2,c2,e2,rfl,s2,u2,m2,k2,g2⟩:=QeR (hval 2 58 v2 rfl rfl) h2
 exact Jb (QrT az l0 a1 ⟨lv2,pl2,sc2,ins2,hs2,tag2⟩ A0 B0 A2 B2 c0 e0 c2 e2 _ (Xn s0) (Xn u0) (Xn s2) (Xn u2) m0 k0 m2 k2 (hS tp))
set_option maxRecDepth 100000 in
theorem QsS(os:Os)(started:os.Started)(H:Type)(enc:TypeId×Value→H):
 ReturnsInLeavingWide {} Tryz.checked os 9 .any (fun w args=>(Rows.fnExactVerifyReplaySpec.pre enc Tryz.prog Tryz.f9 [] false w args∧laidMet Tryz.prog Rows.fnMakeOpenRow.laid w)∧sizedMet enc Tryz.prog Tryz.f9 (OpenSpec.ofChange Rows.fnExactVerifyReplaySpec) false w args) (Rows.fnExactVerifyReplaySpec.post enc Tryz.prog Tryz.f9 false true false false):=
 Qcl (s:=Rows.fnExactVerifyReplaySpec) (tb:=4) os started (by kernel_rfl) Tryz.func9 Sq.func9 (by decide) (by kernel_rfl) Tryz.results9 (by kernel_rfl) (by kernel_rfl) Tryz.underlying4 rfl (fun ds gs hl hg=>by
  match ds,hl,gs,hg with
  |[d0,d1,d2],_,[g1,g2,g3,g4,g5,g6,g7,g8,g9],_=>rfl)
  (ChangeSpec.witness_shaped (enc:=enc) (C:= Tryz.checked) (os:=os) (X:=fun w _=>laidMet Tryz.prog Rows.fnMakeOpenRow.laid w) false (World.doorLaid Tryz.prog 400 os) #[.agg #[.int .i64 0,.int .i64 0,.int .i64 0,.int .i64 0,.slice none 0 0,.slice none 0 0,.int .i64 0,.int .i64 0,.int .i64 0,.int .i64 0,.int .i64 0],.int .i64 0,.agg #[.int .i64 0,.int .i64 0,.int .i64 0,.slice none 0 0,.slice none 0 0,.int .i64 0]] 8 rfl (World.shaped_of_RefB (by kernel_rfl) (by kernel_rfl)) (by kernel_rfl) (by kernel_rfl) (by kernel_rfl) (QbU os _)) Qxt
theorem Qoa:joinedFacts Tryz.pinned.checked.prog 9 Tryz.f9 Rows.fnExactVerifyReplaySpec Rows.fnExactVerifyReplayRow=true:=by
 show joinedFacts Tryz.prog 9 Tryz.f9 Rows.fnExactVerifyReplaySpec Rows.fnExactVerifyReplayRow=true
 obtain⟨P,hP⟩: ∃P, Tryz.prog=P:=⟨_,rfl⟩
 rw[hP]
 have h1:P.mayEnter=true:=hP ▸ mayEnter_
 have h2:P.liftsFinal=false:=hP ▸ lifts_
 have h3:P.make=some Make.cut:=hP ▸ make_
 unfold joinedFacts
 rw[h1,h2,h3,←hP]
 show _=true
 kernel_rfl
theorem Qmx:Rows.FnExactVerifyReplaySaid:=
 OpenClaim.holds_of_wide_leaving 9 Tryz.f9 rfl rfl rfl rfl rfl rfl rfl ⟨rfl,rfl,rfl,rfl,rfl⟩ rfl rfl rfl rfl rfl (by kernel_rfl) Tryz.func9 Qoa
  (of_decide_eq_true (by kernel_rfl)) (by unfold Func.isWrapper;first|(rw[if_pos (by decide+kernel)];kernel_rfl)|(rw[if_neg (by decide+kernel)];exact⟨rfl,rfl⟩))
  (fun os started H enc _=>QsS os started H enc)
set_option maxRecDepth 100000 in
theorem VerifyReplayX_holds:Rows.FnExactVerifyReplayCardSaid:=
 QcI _ true _ true Qmx (by kernel_rfl) fnExactVerifyReplay_row_tie rfl ⟨rfl,rfl⟩ (by kernel_rfl) rfl
  (fun f fn hf hfn=>by
    obtain rfl:f=9:=Option.some.inj ((show Tryz.prog.funcNamed Rows.fnExactVerifyReplayRow.func=some 9 by kernel_rfl).symm.trans hf) |>.symm
    obtain rfl:fn= Tryz.f9:=(Option.some.inj (Tryz.func9.symm.trans hfn)).symm
    exact⟨by kernel_rfl,fun j t ht=>by
     rw[Tryz.params9] at ht
     have hm:t∈ [55,3,58]:=by simpa using Array.mem_of_getElem? ht
     have hall:([55,3,58].all fun u=> !Tryz.prog.wantsStandIn u)=true:=by kernel_rfl
     exact(show Tryz.prog.wantsStandIn t=false by simpa using List.all_eq_true.1 hall t hm)⟩)
  (by kernel_rfl)
end Go.Proofs.YtpmjcjoeckajgaaGreatDoor
