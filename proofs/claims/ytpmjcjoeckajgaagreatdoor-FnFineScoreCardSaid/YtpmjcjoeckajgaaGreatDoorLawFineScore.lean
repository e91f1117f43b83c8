/- The law FnFineScore: its walk. A better score is a lie. Printed by gen/lawsW.py. (Round C, cards) -/
import Derived.Test.YtpmjcjoeckajgaaGreatDoorDrV
import Derived.Test.YtpmjcjoeckajgaaGreatDoorVerE
import Derived.Test.YtpmjcjoeckajgaaGreatDoorVerP
import Derived.Test.YtpmjcjoeckajgaaGreatDoorVerD
import Derived.Deep.RegionHeld3
namespace Go.Proofs.YtpmjcjoeckajgaaGreatDoor
open Go.ChangeShapes Go.WideShapes Go.ChangeAt Go.RowKit
set_option maxRecDepth 100000 in
set_option maxHeartbeats 8000000 in
theorem QqZ(az:Nat→Addr)(A M:Option Addr)(n nm c cm:Nat)(l:List Int)(w:World)(h:Sl w 1 QD A n l)(hl: ∀x∈l,0≤x∧x<256)(hn:n≤9223372036854775807)(hnc:n≤c)(hc:c≤9223372036854775807)(sz:Jj az w)(hnm:nm≤9223372036854775807):
 Calls Sq.prog 5 #[.slice A n c,.slice M nm cm] w fun e w'=>e= .returned (.bool true)∧Below w.heap.size w w':=by
 have SZ:=Lib.hid sz
 clear sz
 by_cases h1:1048576<(n:Int)
 ·go_enter Sq.func5, Tryz.ntmps5
  go_wp2
  go_ret
  exact⟨rfl,Below.refl _ _⟩
 by_cases h2:1048576<(nm:Int)
 ·go_enter Sq.func5, Tryz.ntmps5
  go_wp2
  go_ret
  exact⟨rfl,Below.refl _ _⟩
 go_enter Sq.func5, Tryz.ntmps5
 go_wp2_with fail
 refine(QfN A n c l _ h hl hn hnc hc).mono ?_
 rintro e w1 ⟨lv,B,B',k,k',key,r,A2,c2,A3,c3,rfl,hD,⟨hk0,hk1⟩, -,d1⟩
 clear h hl
 have nw:=hD.nw
 have ng:=hD.ng
 have ni:=hD.P.nin
 have nh:=hD.P.nhs
 have y1:=d1.size
 obtain⟨vd,hvd⟩: ∃vd,QM lv key r=vd:=⟨_,rfl⟩
 have HVD:=Lib.hid hvd
 clear hvd
 obtain⟨L,hL⟩: ∃L,w1.heap.size=L:=⟨_,rfl⟩
 go_wp2_with fail
 refine(QaN az lv key r B B' A2 A3 k k' c2 c3 _ (hD.W.below ?b) (hD.G.below ?b) hD.e hD.e' (by(try dsimp only);omega) (by(try dsimp only);omega) (hD.I.below ?b) (hD.H.below ?b) hD.e3 (by omega) (by omega) (SZ.out.below (by(with_reducible repeat first|assumption|apply bl0|apply blA|apply blD|apply blN|refine blF ?_ ‹_›|(apply blS;(simp<;>omega)))))).mono ?_
 case b=>(with_reducible repeat first|assumption|apply bl0|apply blA|apply blD|apply blN|refine blF ?_ ‹_›|(apply blS;(simp<;>omega)))
 rw[HVD.out]
 rintro e w2 ⟨rfl,hb2⟩
 have FD2:Qx lv B B' k k' r A2 A3 c2 c3 w2:=Qx.below (by(repeat(first|(with_reducible assumption)|(with_reducible refine Qx.alloc ?_ _)|(with_reducible refine Qx.drew ?_)))) hb2
 obtain⟨FL2,FM2⟩:Bk w2 L 29 #[.int .i64 lv.id,.int .i64 lv.ticks,.int .i64 lv.start.x,.int .i64 lv.start.y,.slice B lv.walls.length k,.slice B' lv.gates.length k',.int .i64 lv.fin.lo.x,.int .i64 lv.fin.lo.y,.int .i64 lv.fin.hi.x,.int .i64 lv.fin.hi.y,.int .i64 lv.bans]∧Bk w2 (L+1) 33 #[.int .i64 r.lv,.int .i64 r.pl,.int .i64 r.sc,.slice A2 r.ins.length c2,.slice A3 r.hs.length c3,.int .i64 r.tag]:=by refine⟨Bk.later ?_ hb2,Bk.later ?_ hb2⟩<;>(repeat first|(with_reducible first|assumption|exact kN _ _ _ (by first|assumption|simp<;>omega)|refine kA ?_ _|refine kD ?_|refine kW ?_ _|apply Bk.set'|refine kF ?_ (by simp<;>omega) _)|exact⟨by with_reducible rfl⟩|exact⟨by simp⟩)
 have d2:Below w.heap.size w w2:=Qa (by(with_reducible repeat first|assumption|apply bl0|apply blA|apply blD|apply blN|refine blF ?_ ‹_›|(apply blS;(simp<;>omega)))) hb2
 have y2:=d2.size
 have zL2:=FL2.lt
 have zM2:=FM2.lt
 clear hb2 hD d1 y1
 obtain⟨⟨cL0,cL1,cL2,cL3,cL4,cL5,cL6,cL7,cL8,cL9,cL10⟩,cLf⟩:=FL2.c11
 obtain⟨⟨cM0,cM1,cM2,cM3,cM4,cM5⟩,cMf⟩:=FM2.c6
 go_wp2_with fail
 refine(Qe8 lv key r B B' A2 A3 k k' c2 c3 _ (FD2.W.below ?b) (FD2.G.below ?b) (by omega) (by omega) (FD2.I.below ?b) (FD2.H.below ?b) FD2.e3 (by omega) (by omega)).mono ?_
 case b=>(with_reducible repeat first|assumption|apply bl0|apply blA|apply blD|apply blN|refine blF ?_ ‹_›|(apply blS;(simp<;>omega)))
 rw[HVD.out]
 rintro e w3 ⟨rfl,hb3⟩
 have FD3:Qx lv B B' k k' r A2 A3 c2 c3 w3:=Qx.below (by(repeat(first|(with_reducible assumption)|(with_reducible refine Qx.alloc ?_ _)|(with_reducible refine Qx.drew ?_)))) hb3
 obtain⟨FL3,FM3⟩:Bk w3 L 29 #[.int .i64 lv.id,.int .i64 lv.ticks,.int .i64 lv.start.x,.int .i64 lv.start.y,.slice B lv.walls.length k,.slice B' lv.gates.length k',.int .i64 lv.fin.lo.x,.int .i64 lv.fin.lo.y,.int .i64 lv.fin.hi.x,.int .i64 lv.fin.hi.y,.int .i64 lv.bans]∧Bk w3 (L+1) 33 #[.int .i64 r.lv,.int .i64 r.pl,.int .i64 r.sc,.slice A2 r.ins.length c2,.slice A3 r.hs.length c3,.int .i64 r.tag]:=by refine⟨Bk.later ?_ hb3,Bk.later ?_ hb3⟩<;>(repeat first|(with_reducible first|assumption|exact kN _ _ _ (by first|assumption|simp<;>omega)|refine kA ?_ _|refine kD ?_|refine kW ?_ _|apply Bk.set'|refine kF ?_ (by simp<;>omega) _)|exact⟨by with_reducible rfl⟩|exact⟨by simp⟩)
 have d3:Below w.heap.size w w3:=Qa (by(with_reducible repeat first|assumption|apply bl0|apply blA|apply blD|apply blN|refine blF ?_ ‹_›|(apply blS;(simp<;>omega)))) hb3
 have y3:=d3.size
 have zL3:=FL3.lt
 have zM3:=FM3.lt
 clear hb3 FD2 FL2 FM2 d2 y2 zL2 zM2 cL0 cL1 cL2 cL3 cL4 cL5 cL6 cL7 cL8 cL9 cL10 cLf cM0 cM1 cM2 cM3 cM4 cM5 cMf
 obtain⟨⟨cL0,cL1,cL2,cL3,cL4,cL5,cL6,cL7,cL8,cL9,cL10⟩,cLf⟩:=FL3.c11
 obtain⟨⟨cM0,cM1,cM2,cM3,cM4,cM5⟩,cMf⟩:=FM3.c6
 by_cases hv0:vd=0
 rotate_left
 ·skip
  go_wp2
  go_ret
  exact⟨rfl,by(with_reducible repeat first|assumption|apply bl0|apply blA|apply blD|apply blN|refine blF ?_ ‹_›|(apply blS;(simp<;>omega)))⟩
 subst hv0
 have HFI:=Lib.hid (Qby HVD.out)
 have hsb:=(QgI HFI.out.1).2.2
 obtain⟨q,hq⟩: ∃q:Int,(r.sc+1+(nm:Int) % 60) % 61=q:=⟨_,rfl⟩
 have hq0:0≤q∧q≤60:=by omega
 have hfs:=Qpq (s:=q) HVD.out hq0.1 hq0.2
 have HRK:=Lib.hid hfs.1
 have HNE:=Lib.hid hfs.2
 clear hfs
 have HRL:Hid (repL ⟨r.lv,r.pl,q,r.ins,r.hs,r.tag⟩=QK ⟨r.lv,r.pl,q,r.ins,r.hs,r.tag⟩):=Lib.hid (by unfold repL;rw[HRK.out,if_pos rfl])
 have HBD:=Lib.hid (QbH HRK.out)
 have hrl:(QK ⟨r.lv,r.pl,q,r.ins,r.hs,r.tag⟩).length≤200:=by rw[QaQ];dsimp only;omega
 have hkk:inR 1 9999 key=true:=HFI.out.2.2.2.1
 obtain⟨ls,hls⟩: ∃ls,QK ⟨r.lv,r.pl,q,r.ins,r.hs,r.tag⟩=ls:=⟨_,rfl⟩
 rw[hls] at HRL HBD hrl HNE
 clear hls
 obtain⟨tg,htg⟩: ∃tg,tagL key ls=tg:=⟨_,rfl⟩
 rw[htg] at HNE
 have HTG:=Lib.hid htg
 clear htg
 obtain⟨X,hX⟩: ∃X,w3.heap.size=X:=⟨_,rfl⟩
 have qLX:L<X:=by omega
 have qMX:L+1<X:=by omega
 have wX:w.heap.size≤X:=by omega
 have GD:=Lib.hid FD3
 go_wp2_with fail
 try rw[hq]
 refine(JZ A2 A3 c2 c3 ⟨r.lv,r.pl,q,r.ins,r.hs,r.tag⟩ _ (FD3.I.below ?b) (FD3.H.below ?b) (by(try dsimp only);omega) (by(try dsimp only);omega) FD3.e3).mono ?_
 case b=>(with_reducible repeat first|assumption|apply bl0|apply blA|apply blD|apply blN|refine blF ?_ ‹_›|(apply blS;(simp<;>omega)))
 rw[HRL.out]
 rintro e w4 ⟨AL,cL,rfl,hcL,hOL,hb4⟩
 have FD4:Qx lv B B' k k' r A2 A3 c2 c3 w4:=Qx.below (by(repeat(first|(with_reducible assumption)|(with_reducible refine Qx.alloc ?_ _)|(with_reducible refine Qx.drew ?_)))) hb4
 obtain⟨FL4,FM4,FX4⟩:Bk w4 L 29 #[.int .i64 lv.id,.int .i64 lv.ticks,.int .i64 lv.start.x,.int .i64 lv.start.y,.slice B lv.walls.length k,.slice B' lv.gates.length k',.int .i64 lv.fin.lo.x,.int .i64 lv.fin.lo.y,.int .i64 lv.fin.hi.x,.int .i64 lv.fin.hi.y,.int .i64 lv.bans]∧Bk w4 (L+1) 33 #[.int .i64 r.lv,.int .i64 r.pl,.int .i64 r.sc,.slice A2 r.ins.length c2,.slice A3 r.hs.length c3,.int .i64 r.tag]∧Bk w4 X 33 #[.int .i64 (⟨r.lv,r.pl,q,r.ins,r.hs,r.tag⟩:Rep).lv,.int .i64 (⟨r.lv,r.pl,q,r.ins,r.hs,r.tag⟩:Rep).pl,.int .i64 (⟨r.lv,r.pl,q,r.ins,r.hs,r.tag⟩:Rep).sc,.slice A2 (⟨r.lv,r.pl,q,r.ins,r.hs,r.tag⟩:Rep).ins.length c2,.slice A3 (⟨r.lv,r.pl,q,r.ins,r.hs,r.tag⟩:Rep).hs.length c3,.int .i64 (⟨r.lv,r.pl,q,r.ins,r.hs,r.tag⟩:Rep).tag]:=by refine⟨Bk.later ?_ hb4,Bk.later ?_ hb4,Bk.later ?_ hb4⟩<;>(repeat first|(with_reducible first|assumption|exact kN _ _ _ (by first|assumption|simp<;>omega)|refine kA ?_ _|refine kD ?_|refine kW ?_ _|apply Bk.set'|refine kF ?_ (by simp<;>omega) _)|exact⟨by with_reducible rfl⟩|exact⟨by simp⟩)
 have d4:Below w.heap.size w w4:=Qa (by(with_reducible repeat first|assumption|apply bl0|apply blA|apply blD|apply blN|refine blF ?_ ‹_›|(apply blS;(simp<;>omega)))) hb4
 have y4:=d4.size
 have zL4:=FL4.lt
 have zM4:=FM4.lt
 have zX4:=FX4.lt
 have b34:Below w3.heap.size w3 w4:=Qa (by(with_reducible repeat first|assumption|apply bl0|apply blA|apply blD|apply blN|refine blF ?_ ‹_›|(apply blS;(simp<;>omega)))) hb4
 have FT4:Own w4 w3.heap.size 3 1 Qe (.slice AL ls.length cL) ls:=hOL.mono (by simp)
 clear hOL
 clear hb4 FD3 FL3 FM3 d3 y3 zL3 zM3 cL0 cL1 cL2 cL3 cL4 cL5 cL6 cL7 cL8 cL9 cL10 cLf cM0 cM1 cM2 cM3 cM4 cM5 cMf
 obtain⟨⟨cM0,cM1,cM2,cM3,cM4,cM5⟩,cMf⟩:=FM4.c6
 obtain⟨⟨cX0,cX1,cX2,cX3,cX4,cX5⟩,cXf⟩:=FX4.c6
 go_wp2_with fail
 refine(Qcb key AL _ cL ls _ ((FT4.sl' Qi).below (by(with_reducible repeat first|assumption|apply bl0|apply blA|apply blD|apply blN|refine blF ?_ ‹_›|(apply blS;(simp<;>omega))))) (by omega) hrl (fun a e=>Nat.lt_of_lt_of_le (FT4.alt a e) (by first|exact Nat.le_refl _|(simp;done))) hkk HBD.out).mono ?_
 rw[HTG.out]
 rintro e w5 ⟨rfl,hb5⟩
 obtain⟨FL5,FM5,FX5⟩:Bk w5 L 29 #[.int .i64 lv.id,.int .i64 lv.ticks,.int .i64 lv.start.x,.int .i64 lv.start.y,.slice B lv.walls.length k,.slice B' lv.gates.length k',.int .i64 lv.fin.lo.x,.int .i64 lv.fin.lo.y,.int .i64 lv.fin.hi.x,.int .i64 lv.fin.hi.y,.int .i64 lv.bans]∧Bk w5 (L+1) 33 #[.int .i64 r.lv,.int .i64 r.pl,.int .i64 r.sc,.slice A2 r.ins.length c2,.slice A3 r.hs.length c3,.int .i64 r.tag]∧Bk w5 X 33 #[.int .i64 (⟨r.lv,r.pl,q,r.ins,r.hs,r.tag⟩:Rep).lv,.int .i64 (⟨r.lv,r.pl,q,r.ins,r.hs,r.tag⟩:Rep).pl,.int .i64 (⟨r.lv,r.pl,q,r.ins,r.hs,r.tag⟩:Rep).sc,.slice A2 (⟨r.lv,r.pl,q,r.ins,r.hs,r.tag⟩:Rep).ins.length c2,.slice A3 (⟨r.lv,r.pl,q,r.ins,r.hs,r.tag⟩:Rep).hs.length c3,.int .i64 (⟨r.lv,r.pl,q,r.ins,r.hs,r.tag⟩:Rep).tag]:=by refine⟨Bk.later ?_ hb5,Bk.later ?_ hb5,Bk.later ?_ hb5⟩<;>(repeat first|(with_reducible first|assumption|exact kN _ _ _ (by first|assumption|simp<;>omega)|refine kA ?_ _|refine kD ?_|refine kW ?_ _|apply Bk.set'|refine kF ?_ (by simp<;>omega) _)|exact⟨by with_reducible rfl⟩|exact⟨by simp⟩)
 have d5:Below w.heap.size w w5:=Qa (by(with_reducible repeat first|assumption|apply bl0|apply blA|apply blD|apply blN|refine blF ?_ ‹_›|(apply blS;(simp<;>omega)))) hb5
 have y5:=d5.size
 have zL5:=FL5.lt
 have zM5:=FM5.lt
 have zX5:=FX5.lt
 have b35:Below w3.heap.size w3 w5:=Qa (by(with_reducible repeat first|assumption|apply bl0|apply blA|apply blD|apply blN|refine blF ?_ ‹_›|(apply blS;(simp<;>omega)))) hb5
 clear hb5 FD4 FL4 FM4 FX4 FT4 d4 y4 zL4 zM4 zX4 cM0 cM1 cM2 cM3 cM4 cM5 cMf cX0 cX1 cX2 cX3 cX4 cX5 cXf
 obtain⟨⟨cL0,cL1,cL2,cL3,cL4,cL5,cL6,cL7,cL8,cL9,cL10⟩,cLf⟩:=FL5.c11
 obtain⟨⟨cM0,cM1,cM2,cM3,cM4,cM5⟩,cMf⟩:=FM5.c6
 obtain⟨⟨cX0,cX1,cX2,cX3,cX4,cX5⟩,cXf⟩:=FX5.c6
 clear hq
 by_cases hqs:q=r.sc
 ·subst hqs
  clear hsb hq0
  go_wp2
  go_ret
  exact⟨rfl,by(with_reducible repeat first|assumption|apply bl0|apply blA|apply blD|apply blN|refine blF ?_ ‹_›|(apply blS;(simp<;>omega)))⟩
 ·have hnv:=HNE.out hqs
  have HNV:=Lib.hid hnv
  clear hnv
  go_wp2_with fail
  refine(QaN az lv key ⟨r.lv,r.pl,q,r.ins,r.hs,tg⟩ B B' A2 A3 k k' c2 c3 _ (GD.out.W.below ?b) (GD.out.G.below ?b) GD.out.e GD.out.e' (by(try dsimp only);omega) (by(try dsimp only);omega) (GD.out.I.below ?b) (GD.out.H.below ?b) GD.out.e3 (by(try dsimp only);omega) (by(try dsimp only);omega) (SZ.out.below (by(with_reducible repeat first|assumption|apply bl0|apply blA|apply blD|apply blN|refine blF ?_ ‹_›|(apply blS;(simp<;>omega)))))).mono ?_
  case b=>(with_reducible repeat first|assumption|apply bl0|apply blA|apply blD|apply blN|refine blF ?_ ‹_›|(apply blS;(simp<;>omega)))
  rw[HNV.out]
  rintro e w6 ⟨rfl,hb6⟩
  have d6:Below w.heap.size w w6:=Qa (by(with_reducible repeat first|assumption|apply bl0|apply blA|apply blD|apply blN|refine blF ?_ ‹_›|(apply blS;(simp<;>omega)))) hb6
  have y6:=d6.size
  clear hb6 FL5 FM5 FX5 d5 y5 zL5 zM5 zX5 cL0 cL1 cL2 cL3 cL4 cL5 cL6 cL7 cL8 cL9 cL10 cLf cM0 cM1 cM2 cM3 cM4 cM5 cMf cX0 cX1 cX2 cX3 cX4 cX5 cXf
  go_wp2
  go_ret
  exact⟨rfl,by(with_reducible repeat first|assumption|apply bl0|apply blA|apply blD|apply blN|refine blF ?_ ‹_›|(apply blS;(simp<;>omega)))⟩
end Go.Proofs.YtpmjcjoeckajgaaGreatDoor
