/- The law FnFineInput: its walk. A changed level changes the verdict. Printed by gen/lawsW.py. (Round C, cards) -/
import Derived.Test.YtpmjcjoeckajgaaGreatDoorDrV
import Derived.Test.YtpmjcjoeckajgaaGreatDoorVerE
import Derived.Test.YtpmjcjoeckajgaaGreatDoorVerP
import Derived.Test.YtpmjcjoeckajgaaGreatDoorVerD
import Derived.Deep.RegionHeld3
namespace Go.Proofs.YtpmjcjoeckajgaaGreatDoor
open Go.ChangeShapes Go.WideShapes Go.ChangeAt Go.RowKit
set_option maxRecDepth 100000 in
set_option maxHeartbeats 8000000 in
theorem QqX(az:Nat→Addr)(A M:Option Addr)(n nm c cm:Nat)(l:List Int)(w:World)(h:Sl w 1 QD A n l)(hl: ∀x∈l,0≤x∧x<256)(hn:n≤9223372036854775807)(hnc:n≤c)(hc:c≤9223372036854775807)(sz:Jj az w)(hnm:nm≤9223372036854775807):
 Calls Sq.prog 3 #[.slice A n c,.slice M nm cm] w fun e w'=>e= .returned (.bool true)∧Below w.heap.size w w':=by
 have SZ:=Lib.hid sz
 clear sz
 by_cases h1:1048576<(n:Int)
 ·go_enter Sq.func3, Tryz.ntmps3
  go_wp2
  go_ret
  exact⟨rfl,Below.refl _ _⟩
 by_cases h2:1048576<(nm:Int)
 ·go_enter Sq.func3, Tryz.ntmps3
  go_wp2
  go_ret
  exact⟨rfl,Below.refl _ _⟩
 go_enter Sq.func3, Tryz.ntmps3
 go_wp2_with fail
 refine(QfN A n c l _ h hl hn hnc hc).mono ?_
 rintro e w1 ⟨lv,B,B',k,k',key,r,A2,c2,A3,c3,rfl,hD,⟨hk0,hk1⟩, -,d1⟩
 clear h hl
 have nw:=hD.nw
 have ng:=hD.ng
 have ni:=hD.P.nin
 have nh:=hD.P.nhs
 have y1:=d1.size
 obtain⟨vd,hvd⟩: ∃vd,QM lv key r=vd:=⟨_,rfl⟩
 have HVD:=Lib.hid hvd
 clear hvd
 obtain⟨L,hL⟩: ∃L,w1.heap.size=L:=⟨_,rfl⟩
 go_wp2_with fail
 refine(QaN az lv key r B B' A2 A3 k k' c2 c3 _ (hD.W.below ?b) (hD.G.below ?b) hD.e hD.e' (by(try dsimp only);omega) (by(try dsimp only);omega) (hD.I.below ?b) (hD.H.below ?b) hD.e3 (by omega) (by omega) (SZ.out.below (by(with_reducible repeat first|assumption|apply bl0|apply blA|apply blD|apply blN|refine blF ?_ ‹_›|(apply blS;(simp<;>omega)))))).mono ?_
 case b=>(with_reducible repeat first|assumption|apply bl0|apply blA|apply blD|apply blN|refine blF ?_ ‹_›|(apply blS;(simp<;>omega)))
 rw[HVD.out]
 rintro e w2 ⟨rfl,hb2⟩
 have FD2:Qx lv B B' k k' r A2 A3 c2 c3 w2:=Qx.below (by(repeat(first|(with_reducible assumption)|(with_reducible refine Qx.alloc ?_ _)|(with_reducible refine Qx.drew ?_)))) hb2
 obtain⟨FL2,FM2⟩:Bk w2 L 29 #[.int .i64 lv.id,.int .i64 lv.ticks,.int .i64 lv.start.x,.int .i64 lv.start.y,.slice B lv.walls.length k,.slice B' lv.gates.length k',.int .i64 lv.fin.lo.x,.int .i64 lv.fin.lo.y,.int .i64 lv.fin.hi.x,.int .i64 lv.fin.hi.y,.int .i64 lv.bans]∧Bk w2 (L+1) 33 #[.int .i64 r.lv,.int .i64 r.pl,.int .i64 r.sc,.slice A2 r.ins.length c2,.slice A3 r.hs.length c3,.int .i64 r.tag]:=by refine⟨Bk.later ?_ hb2,Bk.later ?_ hb2⟩<;>(repeat first|(with_reducible first|assumption|exact kN _ _ _ (by first|assumption|simp<;>omega)|refine kA ?_ _|refine kD ?_|refine kW ?_ _|apply Bk.set'|refine kF ?_ (by simp<;>omega) _)|exact⟨by with_reducible rfl⟩|exact⟨by simp⟩)
 have d2:Below w.heap.size w w2:=Qa (by(with_reducible repeat first|assumption|apply bl0|apply blA|apply blD|apply blN|refine blF ?_ ‹_›|(apply blS;(simp<;>omega)))) hb2
 have y2:=d2.size
 have zL2:=FL2.lt
 have zM2:=FM2.lt
 clear hb2 hD d1 y1
 obtain⟨⟨cL0,cL1,cL2,cL3,cL4,cL5,cL6,cL7,cL8,cL9,cL10⟩,cLf⟩:=FL2.c11
 obtain⟨⟨cM0,cM1,cM2,cM3,cM4,cM5⟩,cMf⟩:=FM2.c6
 go_wp2_with fail
 refine(Qe8 lv key r B B' A2 A3 k k' c2 c3 _ (FD2.W.below ?b) (FD2.G.below ?b) (by omega) (by omega) (FD2.I.below ?b) (FD2.H.below ?b) FD2.e3 (by omega) (by omega)).mono ?_
 case b=>(with_reducible repeat first|assumption|apply bl0|apply blA|apply blD|apply blN|refine blF ?_ ‹_›|(apply blS;(simp<;>omega)))
 rw[HVD.out]
 rintro e w3 ⟨rfl,hb3⟩
 have FD3:Qx lv B B' k k' r A2 A3 c2 c3 w3:=Qx.below (by(repeat(first|(with_reducible assumption)|(with_reducible refine Qx.alloc ?_ _)|(with_reducible refine Qx.drew ?_)))) hb3
 obtain⟨FL3,FM3⟩:Bk w3 L 29 #[.int .i64 lv.id,.int .i64 lv.ticks,.int .i64 lv.start.x,.int .i64 lv.start.y,.slice B lv.walls.length k,.slice B' lv.gates.length k',.int .i64 lv.fin.lo.x,.int .i64 lv.fin.lo.y,.int .i64 lv.fin.hi.x,.int .i64 lv.fin.hi.y,.int .i64 lv.bans]∧Bk w3 (L+1) 33 #[.int .i64 r.lv,.int .i64 r.pl,.int .i64 r.sc,.slice A2 r.ins.length c2,.slice A3 r.hs.length c3,.int .i64 r.tag]:=by refine⟨Bk.later ?_ hb3,Bk.later ?_ hb3⟩<;>(repeat first|(with_reducible first|assumption|exact kN _ _ _ (by first|assumption|simp<;>omega)|refine kA ?_ _|refine kD ?_|refine kW ?_ _|apply Bk.set'|refine kF ?_ (by simp<;>omega) _)|exact⟨by with_reducible rfl⟩|exact⟨by simp⟩)
 have d3:Below w.heap.size w w3:=Qa (by(with_reducible repeat first|assumption|apply bl0|apply blA|apply blD|apply blN|refine blF ?_ ‹_›|(apply blS;(simp<;>omega)))) hb3
 have y3:=d3.size
 have zL3:=FL3.lt
 have zM3:=FM3.lt
 clear hb3 FD2 FL2 FM2 d2 y2 zL2 zM2 cL0 cL1 cL2 cL3 cL4 cL5 cL6 cL7 cL8 cL9 cL10 cLf cM0 cM1 cM2 cM3 cM4 cM5 cMf
 obtain⟨⟨cL0,cL1,cL2,cL3,cL4,cL5,cL6,cL7,cL8,cL9,cL10⟩,cLf⟩:=FL3.c11
 obtain⟨⟨cM0,cM1,cM2,cM3,cM4,cM5⟩,cMf⟩:=FM3.c6
 by_cases hv0:vd=0
 rotate_left
 ·skip
  go_wp2
  go_ret
  exact⟨rfl,by(with_reducible repeat first|assumption|apply bl0|apply blA|apply blD|apply blN|refine blF ?_ ‹_›|(apply blS;(simp<;>omega)))⟩
 subst hv0
 have HFI:=Lib.hid (Qby HVD.out)
 have hid:=(XP.1 HFI.out.2.1).1
 obtain⟨i,hi⟩: ∃i:Int,(lv.id+1+(nm:Int) % 99) % 100=i:=⟨_,rfl⟩
 have hii:i≠lv.id:=by omega
 have HLV:=Lib.hid (Qpn (i:=i) HVD.out hii)
 have HKY:=Lib.hid (Qpm HVD.out)
 obtain⟨X,hX⟩: ∃X,w3.heap.size=X:=⟨_,rfl⟩
 have qLX:L<X:=by omega
 have qMX:L+1<X:=by omega
 go_wp2_with fail
 try rw[hi]
 refine(QaN az ⟨i,lv.ticks,lv.start,lv.walls,lv.gates,lv.fin,lv.bans⟩ key r B B' A2 A3 k k' c2 c3 _ (FD3.W.below ?b) (FD3.G.below ?b) FD3.e FD3.e' (by(try dsimp only);omega) (by(try dsimp only);omega) (FD3.I.below ?b) (FD3.H.below ?b) FD3.e3 (by omega) (by omega) (SZ.out.below (by(with_reducible repeat first|assumption|apply bl0|apply blA|apply blD|apply blN|refine blF ?_ ‹_›|(apply blS;(simp<;>omega)))))).mono ?_
 case b=>(with_reducible repeat first|assumption|apply bl0|apply blA|apply blD|apply blN|refine blF ?_ ‹_›|(apply blS;(simp<;>omega)))
 rw[HLV.out]
 rintro e w4 ⟨rfl,hb4⟩
 have FD4:Qx lv B B' k k' r A2 A3 c2 c3 w4:=Qx.below (by(repeat(first|(with_reducible assumption)|(with_reducible refine Qx.alloc ?_ _)|(with_reducible refine Qx.drew ?_)))) hb4
 obtain⟨FL4,FM4⟩:Bk w4 L 29 #[.int .i64 lv.id,.int .i64 lv.ticks,.int .i64 lv.start.x,.int .i64 lv.start.y,.slice B lv.walls.length k,.slice B' lv.gates.length k',.int .i64 lv.fin.lo.x,.int .i64 lv.fin.lo.y,.int .i64 lv.fin.hi.x,.int .i64 lv.fin.hi.y,.int .i64 lv.bans]∧Bk w4 (L+1) 33 #[.int .i64 r.lv,.int .i64 r.pl,.int .i64 r.sc,.slice A2 r.ins.length c2,.slice A3 r.hs.length c3,.int .i64 r.tag]:=by refine⟨Bk.later ?_ hb4,Bk.later ?_ hb4⟩<;>(repeat first|(with_reducible first|assumption|exact kN _ _ _ (by first|assumption|simp<;>omega)|refine kA ?_ _|refine kD ?_|refine kW ?_ _|apply Bk.set'|refine kF ?_ (by simp<;>omega) _)|exact⟨by with_reducible rfl⟩|exact⟨by simp⟩)
 have d4:Below w.heap.size w w4:=Qa (by(with_reducible repeat first|assumption|apply bl0|apply blA|apply blD|apply blN|refine blF ?_ ‹_›|(apply blS;(simp<;>omega)))) hb4
 have y4:=d4.size
 have zL4:=FL4.lt
 have zM4:=FM4.lt
 clear hb4 FD3 FL3 FM3 d3 y3 zL3 zM3 cL0 cL1 cL2 cL3 cL4 cL5 cL6 cL7 cL8 cL9 cL10 cLf cM0 cM1 cM2 cM3 cM4 cM5 cMf
 obtain⟨⟨cL0,cL1,cL2,cL3,cL4,cL5,cL6,cL7,cL8,cL9,cL10⟩,cLf⟩:=FL4.c11
 obtain⟨⟨cM0,cM1,cM2,cM3,cM4,cM5⟩,cMf⟩:=FM4.c6
 go_wp2_with fail
 refine(QaN az lv 0 r B B' A2 A3 k k' c2 c3 _ (FD4.W.below ?b) (FD4.G.below ?b) FD4.e FD4.e' (by(try dsimp only);omega) (by(try dsimp only);omega) (FD4.I.below ?b) (FD4.H.below ?b) FD4.e3 (by omega) (by omega) (SZ.out.below (by(with_reducible repeat first|assumption|apply bl0|apply blA|apply blD|apply blN|refine blF ?_ ‹_›|(apply blS;(simp<;>omega)))))).mono ?_
 case b=>(with_reducible repeat first|assumption|apply bl0|apply blA|apply blD|apply blN|refine blF ?_ ‹_›|(apply blS;(simp<;>omega)))
 rw[HKY.out]
 rintro e w5 ⟨rfl,hb5⟩
 have FD5:Qx lv B B' k k' r A2 A3 c2 c3 w5:=Qx.below (by(repeat(first|(with_reducible assumption)|(with_reducible refine Qx.alloc ?_ _)|(with_reducible refine Qx.drew ?_)))) hb5
 have d5:Below w.heap.size w w5:=Qa (by(with_reducible repeat first|assumption|apply bl0|apply blA|apply blD|apply blN|refine blF ?_ ‹_›|(apply blS;(simp<;>omega)))) hb5
 have y5:=d5.size
 clear hb5 FD4 FL4 FM4 d4 y4 zL4 zM4 cL0 cL1 cL2 cL3 cL4 cL5 cL6 cL7 cL8 cL9 cL10 cLf cM0 cM1 cM2 cM3 cM4 cM5 cMf
 go_wp2
 go_ret
 exact⟨rfl,by(with_reducible repeat first|assumption|apply bl0|apply blA|apply blD|apply blN|refine blF ?_ ‹_›|(apply blS;(simp<;>omega)))⟩
end Go.Proofs.YtpmjcjoeckajgaaGreatDoor
