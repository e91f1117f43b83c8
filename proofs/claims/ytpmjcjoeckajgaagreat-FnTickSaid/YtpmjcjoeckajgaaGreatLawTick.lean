/- The law FnTick: its walk. The tick of a verdict. Printed by gen/lawsT.py. (Round B) -/
import Derived.Test.YtpmjcjoeckajgaaGreatDrV
import Derived.Test.YtpmjcjoeckajgaaGreatVerT
import Derived.Test.YtpmjcjoeckajgaaGreatRunQ
namespace Go.Proofs.YtpmjcjoeckajgaaGreat
open Go.ChangeShapes Go.WideShapes Go.ChangeAt Go.RowKit
set_option maxRecDepth 100000 in
set_option maxHeartbeats 8000000 in
theorem QrH(A:Option Addr)(n c:Nat)(l:List Int)(w:World)(h:Sl w 1 QD A n l)(hl: ∀x∈l,0≤x∧x<256)(hn:n≤9223372036854775807)(hnc:n≤c)(hc:c≤9223372036854775807):
 Calls Sq.prog 5 #[.slice A n c] w fun e w'=>e= .returned (.bool true)∧Below w.heap.size w w':=by
 by_cases h1:1048576<(n:Int)
 ·go_enter Sq.func5, Tryz.ntmps5
  go_wp2
  go_ret
  exact⟨rfl,Below.refl _ _⟩
 go_enter Sq.func5, Tryz.ntmps5
 go_wp2_with fail
 refine(QoC A n c l _ h hl hn hnc hc).mono ?_
 rintro e w1 ⟨lv,B,B',k,k',r,A2,c2,A3,c3,rfl,hD,d1⟩
 clear h hl
 have nw:=hD.nw
 have ng:=hD.ng
 have ni:=hD.P.nin
 have nh:=hD.P.nhs
 have y1:=d1.size
 obtain⟨tv,htv⟩: ∃tv,Xy lv r=tv:=⟨_,rfl⟩
 have HTV:=Lib.hid htv
 clear htv
 obtain⟨L,hL⟩: ∃L,w1.heap.size=L:=⟨_,rfl⟩
 go_wp2_with fail
 refine(QiS lv r B B' A2 A3 k k' c2 c3 _ (hD.W.below ?b) (hD.G.below ?b) hD.e hD.e' (by omega) (by omega) (hD.I.below ?b) (hD.H.below ?b) (by omega) (by omega)).mono ?_
 case b=>(with_reducible repeat first|assumption|apply bl0|apply blA|apply blD|apply blN|refine blF ?_ ‹_›|(apply blS;(simp<;>omega)))
 rw[HTV.out]
 rintro e w2 ⟨rfl,hb2⟩
 have FD2:Qx lv B B' k k' r A2 A3 c2 c3 w2:=Qx.below (by(repeat(first|(with_reducible assumption)|(with_reducible refine Qx.alloc ?_ _)|(with_reducible refine Qx.drew ?_)))) hb2
 obtain⟨FL2,FM2⟩:Bk w2 L 42 #[.int .i64 lv.id,.int .i64 lv.ticks,.int .i64 lv.start.x,.int .i64 lv.start.y,.slice B lv.walls.length k,.slice B' lv.gates.length k',.int .i64 lv.fin.lo.x,.int .i64 lv.fin.lo.y,.int .i64 lv.fin.hi.x,.int .i64 lv.fin.hi.y,.int .i64 lv.bans]∧Bk w2 (L+1) 57 #[.int .i64 r.lv,.int .i64 r.pl,.int .i64 r.sc,.slice A2 r.ins.length c2,.slice A3 r.hs.length c3,.int .i64 r.tag]:=by refine⟨Bk.later ?_ hb2,Bk.later ?_ hb2⟩<;>(repeat first|(with_reducible first|assumption|exact kN _ _ _ (by first|assumption|simp<;>omega)|refine kA ?_ _|refine kD ?_|refine kW ?_ _|apply Bk.set'|refine kF ?_ (by simp<;>omega) _)|exact⟨by with_reducible rfl⟩|exact⟨by simp⟩)
 have d2:Below w.heap.size w w2:=Qa (by(with_reducible repeat first|assumption|apply bl0|apply blA|apply blD|apply blN|refine blF ?_ ‹_›|(apply blS;(simp<;>omega)))) hb2
 have y2:=d2.size
 have zL2:=FL2.lt
 have zM2:=FM2.lt
 clear hb2 hD d1 y1
 obtain⟨⟨cL0,cL1,cL2,cL3,cL4,cL5,cL6,cL7,cL8,cL9,cL10⟩,cLf⟩:=FL2.c11
 obtain⟨⟨cM0,cM1,cM2,cM3,cM4,cM5⟩,cMf⟩:=FM2.c6
 go_wp2_with fail
 refine(Qll lv r B B' A2 A3 k k' c2 c3 _ (FD2.W.below ?b) (FD2.G.below ?b) (by omega) (by omega) (FD2.I.below ?b) (FD2.H.below ?b) (by omega) (by omega)).mono ?_
 case b=>(with_reducible repeat first|assumption|apply bl0|apply blA|apply blD|apply blN|refine blF ?_ ‹_›|(apply blS;(simp<;>omega)))
 rw[HTV.out]
 rintro e w3 ⟨rfl,hb3⟩
 have FD3:Qx lv B B' k k' r A2 A3 c2 c3 w3:=Qx.below (by(repeat(first|(with_reducible assumption)|(with_reducible refine Qx.alloc ?_ _)|(with_reducible refine Qx.drew ?_)))) hb3
 obtain⟨FL3,FM3⟩:Bk w3 L 42 #[.int .i64 lv.id,.int .i64 lv.ticks,.int .i64 lv.start.x,.int .i64 lv.start.y,.slice B lv.walls.length k,.slice B' lv.gates.length k',.int .i64 lv.fin.lo.x,.int .i64 lv.fin.lo.y,.int .i64 lv.fin.hi.x,.int .i64 lv.fin.hi.y,.int .i64 lv.bans]∧Bk w3 (L+1) 57 #[.int .i64 r.lv,.int .i64 r.pl,.int .i64 r.sc,.slice A2 r.ins.length c2,.slice A3 r.hs.length c3,.int .i64 r.tag]:=by refine⟨Bk.later ?_ hb3,Bk.later ?_ hb3⟩<;>(repeat first|(with_reducible first|assumption|exact kN _ _ _ (by first|assumption|simp<;>omega)|refine kA ?_ _|refine kD ?_|refine kW ?_ _|apply Bk.set'|refine kF ?_ (by simp<;>omega) _)|exact⟨by with_reducible rfl⟩|exact⟨by simp⟩)
 have d3:Below w.heap.size w w3:=Qa (by(with_reducible repeat first|assumption|apply bl0|apply blA|apply blD|apply blN|refine blF ?_ ‹_›|(apply blS;(simp<;>omega)))) hb3
 have y3:=d3.size
 have zL3:=FL3.lt
 have zM3:=FM3.lt
 clear hb3 FD2 FL2 FM2 d2 y2 zL2 zM2 cL0 cL1 cL2 cL3 cL4 cL5 cL6 cL7 cL8 cL9 cL10 cLf cM0 cM1 cM2 cM3 cM4 cM5 cMf
 obtain⟨⟨cL0,cL1,cL2,cL3,cL4,cL5,cL6,cL7,cL8,cL9,cL10⟩,cLf⟩:=FL3.c11
 obtain⟨⟨cM0,cM1,cM2,cM3,cM4,cM5⟩,cMf⟩:=FM3.c6
 cases hv:QL r
 ·skip
  go_wp2_with fail
  refine(XR A2 A3 c2 c3 r _ (FD3.I.below ?b) (FD3.H.below ?b) (by omega) (by omega)).mono ?_
  case b=>(with_reducible repeat first|assumption|apply bl0|apply blA|apply blD|apply blN|refine blF ?_ ‹_›|(apply blS;(simp<;>omega)))
  rw[hv]
  rintro e w4 ⟨rfl,hb4⟩
  have FD4:Qx lv B B' k k' r A2 A3 c2 c3 w4:=Qx.below (by(repeat(first|(with_reducible assumption)|(with_reducible refine Qx.alloc ?_ _)|(with_reducible refine Qx.drew ?_)))) hb4
  obtain⟨FL4,FM4⟩:Bk w4 L 42 #[.int .i64 lv.id,.int .i64 lv.ticks,.int .i64 lv.start.x,.int .i64 lv.start.y,.slice B lv.walls.length k,.slice B' lv.gates.length k',.int .i64 lv.fin.lo.x,.int .i64 lv.fin.lo.y,.int .i64 lv.fin.hi.x,.int .i64 lv.fin.hi.y,.int .i64 lv.bans]∧Bk w4 (L+1) 57 #[.int .i64 r.lv,.int .i64 r.pl,.int .i64 r.sc,.slice A2 r.ins.length c2,.slice A3 r.hs.length c3,.int .i64 r.tag]:=by refine⟨Bk.later ?_ hb4,Bk.later ?_ hb4⟩<;>(repeat first|(with_reducible first|assumption|exact kN _ _ _ (by first|assumption|simp<;>omega)|refine kA ?_ _|refine kD ?_|refine kW ?_ _|apply Bk.set'|refine kF ?_ (by simp<;>omega) _)|exact⟨by with_reducible rfl⟩|exact⟨by simp⟩)
  have d4:Below w.heap.size w w4:=Qa (by(with_reducible repeat first|assumption|apply bl0|apply blA|apply blD|apply blN|refine blF ?_ ‹_›|(apply blS;(simp<;>omega)))) hb4
  have y4:=d4.size
  have zL4:=FL4.lt
  have zM4:=FM4.lt
  clear hb4 FD3 FL3 FM3 d3 y3 zL3 zM3 cL0 cL1 cL2 cL3 cL4 cL5 cL6 cL7 cL8 cL9 cL10 cLf cM0 cM1 cM2 cM3 cM4 cM5 cMf
  obtain⟨⟨cL0,cL1,cL2,cL3,cL4,cL5,cL6,cL7,cL8,cL9,cL10⟩,cLf⟩:=FL4.c11
  obtain⟨⟨cM0,cM1,cM2,cM3,cM4,cM5⟩,cMf⟩:=FM4.c6
  go_wp2
  go_ret
  exact⟨rfl,by(with_reducible repeat first|assumption|apply bl0|apply blA|apply blD|apply blN|refine blF ?_ ‹_›|(apply blS;(simp<;>omega)))⟩
 cases hL2:QE lv
 ·skip
  go_wp2_with fail
  refine(XR A2 A3 c2 c3 r _ (FD3.I.below ?b) (FD3.H.below ?b) (by omega) (by omega)).mono ?_
  case b=>(with_reducible repeat first|assumption|apply bl0|apply blA|apply blD|apply blN|refine blF ?_ ‹_›|(apply blS;(simp<;>omega)))
  rw[hv]
  rintro e w4 ⟨rfl,hb4⟩
  have FD4:Qx lv B B' k k' r A2 A3 c2 c3 w4:=Qx.below (by(repeat(first|(with_reducible assumption)|(with_reducible refine Qx.alloc ?_ _)|(with_reducible refine Qx.drew ?_)))) hb4
  obtain⟨FL4,FM4⟩:Bk w4 L 42 #[.int .i64 lv.id,.int .i64 lv.ticks,.int .i64 lv.start.x,.int .i64 lv.start.y,.slice B lv.walls.length k,.slice B' lv.gates.length k',.int .i64 lv.fin.lo.x,.int .i64 lv.fin.lo.y,.int .i64 lv.fin.hi.x,.int .i64 lv.fin.hi.y,.int .i64 lv.bans]∧Bk w4 (L+1) 57 #[.int .i64 r.lv,.int .i64 r.pl,.int .i64 r.sc,.slice A2 r.ins.length c2,.slice A3 r.hs.length c3,.int .i64 r.tag]:=by refine⟨Bk.later ?_ hb4,Bk.later ?_ hb4⟩<;>(repeat first|(with_reducible first|assumption|exact kN _ _ _ (by first|assumption|simp<;>omega)|refine kA ?_ _|refine kD ?_|refine kW ?_ _|apply Bk.set'|refine kF ?_ (by simp<;>omega) _)|exact⟨by with_reducible rfl⟩|exact⟨by simp⟩)
  have d4:Below w.heap.size w w4:=Qa (by(with_reducible repeat first|assumption|apply bl0|apply blA|apply blD|apply blN|refine blF ?_ ‹_›|(apply blS;(simp<;>omega)))) hb4
  have y4:=d4.size
  have zL4:=FL4.lt
  have zM4:=FM4.lt
  clear hb4 FD3 FL3 FM3 d3 y3 zL3 zM3 cL0 cL1 cL2 cL3 cL4 cL5 cL6 cL7 cL8 cL9 cL10 cLf cM0 cM1 cM2 cM3 cM4 cM5 cMf
  obtain⟨⟨cL0,cL1,cL2,cL3,cL4,cL5,cL6,cL7,cL8,cL9,cL10⟩,cLf⟩:=FL4.c11
  obtain⟨⟨cM0,cM1,cM2,cM3,cM4,cM5⟩,cMf⟩:=FM4.c6
  go_wp2_with fail
  refine(ZH lv B B' k k' _ (FD4.W.below ?b) (FD4.G.below ?b) (by omega) (by omega)).mono ?_
  case b=>(with_reducible repeat first|assumption|apply bl0|apply blA|apply blD|apply blN|refine blF ?_ ‹_›|(apply blS;(simp<;>omega)))
  rw[hL2]
  rintro e w5 ⟨rfl,hb5⟩
  have FD5:Qx lv B B' k k' r A2 A3 c2 c3 w5:=Qx.below (by(repeat(first|(with_reducible assumption)|(with_reducible refine Qx.alloc ?_ _)|(with_reducible refine Qx.drew ?_)))) hb5
  obtain⟨FL5,FM5⟩:Bk w5 L 42 #[.int .i64 lv.id,.int .i64 lv.ticks,.int .i64 lv.start.x,.int .i64 lv.start.y,.slice B lv.walls.length k,.slice B' lv.gates.length k',.int .i64 lv.fin.lo.x,.int .i64 lv.fin.lo.y,.int .i64 lv.fin.hi.x,.int .i64 lv.fin.hi.y,.int .i64 lv.bans]∧Bk w5 (L+1) 57 #[.int .i64 r.lv,.int .i64 r.pl,.int .i64 r.sc,.slice A2 r.ins.length c2,.slice A3 r.hs.length c3,.int .i64 r.tag]:=by refine⟨Bk.later ?_ hb5,Bk.later ?_ hb5⟩<;>(repeat first|(with_reducible first|assumption|exact kN _ _ _ (by first|assumption|simp<;>omega)|refine kA ?_ _|refine kD ?_|refine kW ?_ _|apply Bk.set'|refine kF ?_ (by simp<;>omega) _)|exact⟨by with_reducible rfl⟩|exact⟨by simp⟩)
  have d5:Below w.heap.size w w5:=Qa (by(with_reducible repeat first|assumption|apply bl0|apply blA|apply blD|apply blN|refine blF ?_ ‹_›|(apply blS;(simp<;>omega)))) hb5
  have y5:=d5.size
  have zL5:=FL5.lt
  have zM5:=FM5.lt
  clear hb5 FD4 FL4 FM4 d4 y4 zL4 zM4 cL0 cL1 cL2 cL3 cL4 cL5 cL6 cL7 cL8 cL9 cL10 cLf cM0 cM1 cM2 cM3 cM4 cM5 cMf
  obtain⟨⟨cL0,cL1,cL2,cL3,cL4,cL5,cL6,cL7,cL8,cL9,cL10⟩,cLf⟩:=FL5.c11
  obtain⟨⟨cM0,cM1,cM2,cM3,cM4,cM5⟩,cMf⟩:=FM5.c6
  go_wp2
  go_ret
  exact⟨rfl,by(with_reducible repeat first|assumption|apply bl0|apply blA|apply blD|apply blN|refine blF ?_ ‹_›|(apply blS;(simp<;>omega)))⟩
 cases hid:(lv.id == r.lv)
 ·skip
  go_wp2_with fail
  refine(XR A2 A3 c2 c3 r _ (FD3.I.below ?b) (FD3.H.below ?b) (by omega) (by omega)).mono ?_
  case b=>(with_reducible repeat first|assumption|apply bl0|apply blA|apply blD|apply blN|refine blF ?_ ‹_›|(apply blS;(simp<;>omega)))
  rw[hv]
  rintro e w4 ⟨rfl,hb4⟩
  have FD4:Qx lv B B' k k' r A2 A3 c2 c3 w4:=Qx.below (by(repeat(first|(with_reducible assumption)|(with_reducible refine Qx.alloc ?_ _)|(with_reducible refine Qx.drew ?_)))) hb4
  obtain⟨FL4,FM4⟩:Bk w4 L 42 #[.int .i64 lv.id,.int .i64 lv.ticks,.int .i64 lv.start.x,.int .i64 lv.start.y,.slice B lv.walls.length k,.slice B' lv.gates.length k',.int .i64 lv.fin.lo.x,.int .i64 lv.fin.lo.y,.int .i64 lv.fin.hi.x,.int .i64 lv.fin.hi.y,.int .i64 lv.bans]∧Bk w4 (L+1) 57 #[.int .i64 r.lv,.int .i64 r.pl,.int .i64 r.sc,.slice A2 r.ins.length c2,.slice A3 r.hs.length c3,.int .i64 r.tag]:=by refine⟨Bk.later ?_ hb4,Bk.later ?_ hb4⟩<;>(repeat first|(with_reducible first|assumption|exact kN _ _ _ (by first|assumption|simp<;>omega)|refine kA ?_ _|refine kD ?_|refine kW ?_ _|apply Bk.set'|refine kF ?_ (by simp<;>omega) _)|exact⟨by with_reducible rfl⟩|exact⟨by simp⟩)
  have d4:Below w.heap.size w w4:=Qa (by(with_reducible repeat first|assumption|apply bl0|apply blA|apply blD|apply blN|refine blF ?_ ‹_›|(apply blS;(simp<;>omega)))) hb4
  have y4:=d4.size
  have zL4:=FL4.lt
  have zM4:=FM4.lt
  clear hb4 FD3 FL3 FM3 d3 y3 zL3 zM3 cL0 cL1 cL2 cL3 cL4 cL5 cL6 cL7 cL8 cL9 cL10 cLf cM0 cM1 cM2 cM3 cM4 cM5 cMf
  obtain⟨⟨cL0,cL1,cL2,cL3,cL4,cL5,cL6,cL7,cL8,cL9,cL10⟩,cLf⟩:=FL4.c11
  obtain⟨⟨cM0,cM1,cM2,cM3,cM4,cM5⟩,cMf⟩:=FM4.c6
  go_wp2_with fail
  refine(ZH lv B B' k k' _ (FD4.W.below ?b) (FD4.G.below ?b) (by omega) (by omega)).mono ?_
  case b=>(with_reducible repeat first|assumption|apply bl0|apply blA|apply blD|apply blN|refine blF ?_ ‹_›|(apply blS;(simp<;>omega)))
  rw[hL2]
  rintro e w5 ⟨rfl,hb5⟩
  have FD5:Qx lv B B' k k' r A2 A3 c2 c3 w5:=Qx.below (by(repeat(first|(with_reducible assumption)|(with_reducible refine Qx.alloc ?_ _)|(with_reducible refine Qx.drew ?_)))) hb5
  obtain⟨FL5,FM5⟩:Bk w5 L 42 #[.int .i64 lv.id,.int .i64 lv.ticks,.int .i64 lv.start.x,.int .i64 lv.start.y,.slice B lv.walls.length k,.slice B' lv.gates.length k',.int .i64 lv.fin.lo.x,.int .i64 lv.fin.lo.y,.int .i64 lv.fin.hi.x,.int .i64 lv.fin.hi.y,.int .i64 lv.bans]∧Bk w5 (L+1) 57 #[.int .i64 r.lv,.int .i64 r.pl,.int .i64 r.sc,.slice A2 r.ins.length c2,.slice A3 r.hs.length c3,.int .i64 r.tag]:=by refine⟨Bk.later ?_ hb5,Bk.later ?_ hb5⟩<;>(repeat first|(with_reducible first|assumption|exact kN _ _ _ (by first|assumption|simp<;>omega)|refine kA ?_ _|refine kD ?_|refine kW ?_ _|apply Bk.set'|refine kF ?_ (by simp<;>omega) _)|exact⟨by with_reducible rfl⟩|exact⟨by simp⟩)
  have d5:Below w.heap.size w w5:=Qa (by(with_reducible repeat first|assumption|apply bl0|apply blA|apply blD|apply blN|refine blF ?_ ‹_›|(apply blS;(simp<;>omega)))) hb5
  have y5:=d5.size
  have zL5:=FL5.lt
  have zM5:=FM5.lt
  clear hb5 FD4 FL4 FM4 d4 y4 zL4 zM4 cL0 cL1 cL2 cL3 cL4 cL5 cL6 cL7 cL8 cL9 cL10 cLf cM0 cM1 cM2 cM3 cM4 cM5 cMf
  obtain⟨⟨cL0,cL1,cL2,cL3,cL4,cL5,cL6,cL7,cL8,cL9,cL10⟩,cLf⟩:=FL5.c11
  obtain⟨⟨cM0,cM1,cM2,cM3,cM4,cM5⟩,cMf⟩:=FM5.c6
  go_wp2
  go_ret
  exact⟨rfl,by(with_reducible repeat first|assumption|apply bl0|apply blA|apply blD|apply blN|refine blF ?_ ‹_›|(apply blS;(simp<;>omega)))⟩
 obtain⟨lx,hlx⟩: ∃lx,QC lv r.ins=lx:=⟨_,rfl⟩
 have hT:Xy lv r=(if 0≤QC lv r.ins then QC lv r.ins else if Zn lv r.ins r.hs then repF lv r.ins r.hs else -1):=by unfold Xy;rw[hv,hL2,hid];rfl
 rw[HTV.out,hlx] at hT
 have HLX:=Lib.hid hlx
 clear hlx
 obtain⟨ro,hro⟩: ∃ro,Zn lv r.ins r.hs=ro:=⟨_,rfl⟩
 have HRO:=Lib.hid hro
 obtain⟨rk,hrk⟩: ∃rk,repK lv r.ins r.hs=rk:=⟨_,rfl⟩
 have HRK:=Lib.hid hrk
 obtain⟨rf,hrf⟩: ∃rf,repF lv r.ins r.hs=rf:=⟨_,rfl⟩
 have HRF:=Lib.hid hrf
 obtain⟨rt,hrt⟩: ∃rt,repT lv r.ins r.hs=rt:=⟨_,rfl⟩
 have HRT:=Lib.hid hrt
 rw[hro,hrf] at hT
 have HT:=Lib.hid hT
 clear hT hro hrk hrf hrt
 go_wp2_with fail
 refine(XR A2 A3 c2 c3 r _ (FD3.I.below ?b) (FD3.H.below ?b) (by omega) (by omega)).mono ?_
 case b=>(with_reducible repeat first|assumption|apply bl0|apply blA|apply blD|apply blN|refine blF ?_ ‹_›|(apply blS;(simp<;>omega)))
 rw[hv]
 rintro e w4 ⟨rfl,hb4⟩
 have FD4:Qx lv B B' k k' r A2 A3 c2 c3 w4:=Qx.below (by(repeat(first|(with_reducible assumption)|(with_reducible refine Qx.alloc ?_ _)|(with_reducible refine Qx.drew ?_)))) hb4
 obtain⟨FL4,FM4⟩:Bk w4 L 42 #[.int .i64 lv.id,.int .i64 lv.ticks,.int .i64 lv.start.x,.int .i64 lv.start.y,.slice B lv.walls.length k,.slice B' lv.gates.length k',.int .i64 lv.fin.lo.x,.int .i64 lv.fin.lo.y,.int .i64 lv.fin.hi.x,.int .i64 lv.fin.hi.y,.int .i64 lv.bans]∧Bk w4 (L+1) 57 #[.int .i64 r.lv,.int .i64 r.pl,.int .i64 r.sc,.slice A2 r.ins.length c2,.slice A3 r.hs.length c3,.int .i64 r.tag]:=by refine⟨Bk.later ?_ hb4,Bk.later ?_ hb4⟩<;>(repeat first|(with_reducible first|assumption|exact kN _ _ _ (by first|assumption|simp<;>omega)|refine kA ?_ _|refine kD ?_|refine kW ?_ _|apply Bk.set'|refine kF ?_ (by simp<;>omega) _)|exact⟨by with_reducible rfl⟩|exact⟨by simp⟩)
 have d4:Below w.heap.size w w4:=Qa (by(with_reducible repeat first|assumption|apply bl0|apply blA|apply blD|apply blN|refine blF ?_ ‹_›|(apply blS;(simp<;>omega)))) hb4
 have y4:=d4.size
 have zL4:=FL4.lt
 have zM4:=FM4.lt
 clear hb4 FD3 FL3 FM3 d3 y3 zL3 zM3 cL0 cL1 cL2 cL3 cL4 cL5 cL6 cL7 cL8 cL9 cL10 cLf cM0 cM1 cM2 cM3 cM4 cM5 cMf
 obtain⟨⟨cL0,cL1,cL2,cL3,cL4,cL5,cL6,cL7,cL8,cL9,cL10⟩,cLf⟩:=FL4.c11
 obtain⟨⟨cM0,cM1,cM2,cM3,cM4,cM5⟩,cMf⟩:=FM4.c6
 go_wp2_with fail
 refine(ZH lv B B' k k' _ (FD4.W.below ?b) (FD4.G.below ?b) (by omega) (by omega)).mono ?_
 case b=>(with_reducible repeat first|assumption|apply bl0|apply blA|apply blD|apply blN|refine blF ?_ ‹_›|(apply blS;(simp<;>omega)))
 rw[hL2]
 rintro e w5 ⟨rfl,hb5⟩
 have FD5:Qx lv B B' k k' r A2 A3 c2 c3 w5:=Qx.below (by(repeat(first|(with_reducible assumption)|(with_reducible refine Qx.alloc ?_ _)|(with_reducible refine Qx.drew ?_)))) hb5
 obtain⟨FL5,FM5⟩:Bk w5 L 42 #[.int .i64 lv.id,.int .i64 lv.ticks,.int .i64 lv.start.x,.int .i64 lv.start.y,.slice B lv.walls.length k,.slice B' lv.gates.length k',.int .i64 lv.fin.lo.x,.int .i64 lv.fin.lo.y,.int .i64 lv.fin.hi.x,.int .i64 lv.fin.hi.y,.int .i64 lv.bans]∧Bk w5 (L+1) 57 #[.int .i64 r.lv,.int .i64 r.pl,.int .i64 r.sc,.slice A2 r.ins.length c2,.slice A3 r.hs.length c3,.int .i64 r.tag]:=by refine⟨Bk.later ?_ hb5,Bk.later ?_ hb5⟩<;>(repeat first|(with_reducible first|assumption|exact kN _ _ _ (by first|assumption|simp<;>omega)|refine kA ?_ _|refine kD ?_|refine kW ?_ _|apply Bk.set'|refine kF ?_ (by simp<;>omega) _)|exact⟨by with_reducible rfl⟩|exact⟨by simp⟩)
 have d5:Below w.heap.size w w5:=Qa (by(with_reducible repeat first|assumption|apply bl0|apply blA|apply blD|apply blN|refine blF ?_ ‹_›|(apply blS;(simp<;>omega)))) hb5
 have y5:=d5.size
 have zL5:=FL5.lt
 have zM5:=FM5.lt
 clear hb5 FD4 FL4 FM4 d4 y4 zL4 zM4 cL0 cL1 cL2 cL3 cL4 cL5 cL6 cL7 cL8 cL9 cL10 cLf cM0 cM1 cM2 cM3 cM4 cM5 cMf
 obtain⟨⟨cL0,cL1,cL2,cL3,cL4,cL5,cL6,cL7,cL8,cL9,cL10⟩,cLf⟩:=FL5.c11
 obtain⟨⟨cM0,cM1,cM2,cM3,cM4,cM5⟩,cMf⟩:=FM5.c6
 go_wp2_with fail
 refine(JQ lv r.ins B B' A2 k k' c2 _ (FD5.W.below ?b) (FD5.G.below ?b) FD5.e FD5.e' (by omega) (by omega) hL2 (FD5.I.below ?b) (by omega)).mono ?_
 case b=>(with_reducible repeat first|assumption|apply bl0|apply blA|apply blD|apply blN|refine blF ?_ ‹_›|(apply blS;(simp<;>omega)))
 rw[HLX.out]
 rintro e w6 ⟨rfl,hb6⟩
 have FD6:Qx lv B B' k k' r A2 A3 c2 c3 w6:=Qx.below (by(repeat(first|(with_reducible assumption)|(with_reducible refine Qx.alloc ?_ _)|(with_reducible refine Qx.drew ?_)))) hb6
 obtain⟨FL6,FM6⟩:Bk w6 L 42 #[.int .i64 lv.id,.int .i64 lv.ticks,.int .i64 lv.start.x,.int .i64 lv.start.y,.slice B lv.walls.length k,.slice B' lv.gates.length k',.int .i64 lv.fin.lo.x,.int .i64 lv.fin.lo.y,.int .i64 lv.fin.hi.x,.int .i64 lv.fin.hi.y,.int .i64 lv.bans]∧Bk w6 (L+1) 57 #[.int .i64 r.lv,.int .i64 r.pl,.int .i64 r.sc,.slice A2 r.ins.length c2,.slice A3 r.hs.length c3,.int .i64 r.tag]:=by refine⟨Bk.later ?_ hb6,Bk.later ?_ hb6⟩<;>(repeat first|(with_reducible first|assumption|exact kN _ _ _ (by first|assumption|simp<;>omega)|refine kA ?_ _|refine kD ?_|refine kW ?_ _|apply Bk.set'|refine kF ?_ (by simp<;>omega) _)|exact⟨by with_reducible rfl⟩|exact⟨by simp⟩)
 have d6:Below w.heap.size w w6:=Qa (by(with_reducible repeat first|assumption|apply bl0|apply blA|apply blD|apply blN|refine blF ?_ ‹_›|(apply blS;(simp<;>omega)))) hb6
 have y6:=d6.size
 have zL6:=FL6.lt
 have zM6:=FM6.lt
 clear hb6 FD5 FL5 FM5 d5 y5 zL5 zM5 cL0 cL1 cL2 cL3 cL4 cL5 cL6 cL7 cL8 cL9 cL10 cLf cM0 cM1 cM2 cM3 cM4 cM5 cMf
 obtain⟨⟨cL0,cL1,cL2,cL3,cL4,cL5,cL6,cL7,cL8,cL9,cL10⟩,cLf⟩:=FL6.c11
 obtain⟨⟨cM0,cM1,cM2,cM3,cM4,cM5⟩,cMf⟩:=FM6.c6
 by_cases hge:0≤lx
 ·obtain rfl:tv=lx:=by have:=HT.out;rw[if_pos hge] at this;exact this
  go_wp2
  go_ret
  exact⟨rfl,by(with_reducible repeat first|assumption|apply bl0|apply blA|apply blD|apply blN|refine blF ?_ ‹_›|(apply blS;(simp<;>omega)))⟩
 have HT2:=Lib.hid (show tv=(if ro then rf else -1) by have:=HT.out;rw[if_neg hge] at this;exact this)
 clear HT
 go_wp2_with fail
 refine(Qbx lv r.ins r.hs B B' A2 A3 k k' c2 c3 _ (FD6.W.below ?b) (FD6.G.below ?b) FD6.e FD6.e' (by omega) (by omega) (FD6.I.below ?b) (by omega) (FD6.H.below ?b) (by omega)).mono ?_
 case b=>(with_reducible repeat first|assumption|apply bl0|apply blA|apply blD|apply blN|refine blF ?_ ‹_›|(apply blS;(simp<;>omega)))
 unfold Xd
 rw[HRK.out,HRF.out,HRT.out,HRO.out]
 rintro e w7 ⟨rfl,hb7⟩
 have FD7:Qx lv B B' k k' r A2 A3 c2 c3 w7:=Qx.below (by(repeat(first|(with_reducible assumption)|(with_reducible refine Qx.alloc ?_ _)|(with_reducible refine Qx.drew ?_)))) hb7
 obtain⟨FL7,FM7⟩:Bk w7 L 42 #[.int .i64 lv.id,.int .i64 lv.ticks,.int .i64 lv.start.x,.int .i64 lv.start.y,.slice B lv.walls.length k,.slice B' lv.gates.length k',.int .i64 lv.fin.lo.x,.int .i64 lv.fin.lo.y,.int .i64 lv.fin.hi.x,.int .i64 lv.fin.hi.y,.int .i64 lv.bans]∧Bk w7 (L+1) 57 #[.int .i64 r.lv,.int .i64 r.pl,.int .i64 r.sc,.slice A2 r.ins.length c2,.slice A3 r.hs.length c3,.int .i64 r.tag]:=by refine⟨Bk.later ?_ hb7,Bk.later ?_ hb7⟩<;>(repeat first|(with_reducible first|assumption|exact kN _ _ _ (by first|assumption|simp<;>omega)|refine kA ?_ _|refine kD ?_|refine kW ?_ _|apply Bk.set'|refine kF ?_ (by simp<;>omega) _)|exact⟨by with_reducible rfl⟩|exact⟨by simp⟩)
 have d7:Below w.heap.size w w7:=Qa (by(with_reducible repeat first|assumption|apply bl0|apply blA|apply blD|apply blN|refine blF ?_ ‹_›|(apply blS;(simp<;>omega)))) hb7
 have y7:=d7.size
 have zL7:=FL7.lt
 have zM7:=FM7.lt
 clear hb7 FD6 FL6 FM6 d6 y6 zL6 zM6 cL0 cL1 cL2 cL3 cL4 cL5 cL6 cL7 cL8 cL9 cL10 cLf cM0 cM1 cM2 cM3 cM4 cM5 cMf
 cases ro
 ·obtain rfl:tv= -1:=HT2.out
  go_wp2
  go_ret
  exact⟨rfl,by(with_reducible repeat first|assumption|apply bl0|apply blA|apply blD|apply blN|refine blF ?_ ‹_›|(apply blS;(simp<;>omega)))⟩
 ·obtain rfl:tv=rf:=HT2.out
  go_wp2
  go_ret
  exact⟨rfl,by(with_reducible repeat first|assumption|apply bl0|apply blA|apply blD|apply blN|refine blF ?_ ‹_›|(apply blS;(simp<;>omega)))⟩
end Go.Proofs.YtpmjcjoeckajgaaGreat
