/- The law FnMakeKey: its walk. Only the key of the player fits. Printed by gen/lawsW.py. (Round C, cards) -/
import Derived.Test.YtpmjcjoeckajgaaGreatDoorMkL
import Derived.Test.YtpmjcjoeckajgaaGreatDoorDrW
import Derived.Test.YtpmjcjoeckajgaaGreatDoorVerP
import Derived.Test.YtpmjcjoeckajgaaGreatDoorVerD
import Derived.Deep.RegionHeld3
namespace Go.Proofs.YtpmjcjoeckajgaaGreatDoor
open Go.ChangeShapes Go.WideShapes Go.ChangeAt Go.RowKit
def Qyb(o:Operand):Op:=Op.move o
def Qya(t:TypeId)(o:Operand):Op:=Op.binOp BinOp.eql t o (.const (.int .i64 4)) t
attribute [local go_sem] Qyb Qya
set_option maxRecDepth 100000 in
set_option maxHeartbeats 8000000 in
theorem Qq6(az:Nat→Addr)(A M:Option Addr)(n nm c cm:Nat)(l:List Int)(w:World)(h:Sl w 1 QD A n l)(hl: ∀x∈l,0≤x∧x<256)(hn:n≤9223372036854775807)(hnc:n≤c)(hc:c≤9223372036854775807)(sz:Jj az w)(hnm:nm≤9223372036854775807):
 Calls Sq.prog 7 #[.slice A n c,.slice M nm cm] w fun e w'=>e= .returned (.bool true)∧Below w.heap.size w w':=by
 have SZ:=Lib.hid sz
 clear sz
 by_cases h1:1048576<(n:Int)
 ·go_enter Sq.func7, Tryz.ntmps7
  go_wp2
  go_ret
  exact⟨rfl,Below.refl _ _⟩
 by_cases h2:1048576<(nm:Int)
 ·go_enter Sq.func7, Tryz.ntmps7
  go_wp2
  go_ret
  exact⟨rfl,Below.refl _ _⟩
 go_enter Sq.func7, Tryz.ntmps7
 go_wp2_with fail
 refine(Qds A n c l _ h hl hn hnc hc).mono ?_
 rintro e w1 ⟨lv,B,B',k,k',pl,key,ins,A2,c2,rfl,hD,⟨hp0,hp1⟩,⟨hk0,hk1⟩, -,d1⟩
 clear h hl
 have nw:=hD.nw
 have ng:=hD.ng
 have ni:=hD.ni
 have ci:=hD.ci
 have y1:=d1.size
 obtain⟨L,hL⟩: ∃L,w1.heap.size=L:=⟨_,rfl⟩
 cases hok:ZJ lv pl key ins
 ·obtain⟨rp,hrp⟩: ∃rp,Zu lv pl key ins=rp:=⟨_,rfl⟩
  have hlen:=Qdb hok
  rw[hrp] at hlen
  obtain⟨hl1,hl2⟩:=hlen
  go_wp2_with fail
  refine((Jy lv pl key ins B B' A2 k k' c2 _ (hD.W.below ?b) (hD.G.below ?b) hD.e hD.e' (hD.I.below ?b) hD.e2 (by omega) (by omega) (by omega)).mono (fun _ _ h=>h.flip)).mono ?_
  case b=>(with_reducible repeat first|assumption|apply bl0|apply blA|apply blD|apply blN|refine blF ?_ ‹_›|(apply blS;(simp<;>omega)))
  rw[hrp,hok]
  rintro e w2 ⟨A6,c6,A7,c7,rfl,hI2,hH2, -,hb2⟩
  have FD2:Qb lv B B' k k' ins A2 c2 w2:=Qb.below (by(repeat(first|(with_reducible assumption)|(with_reducible refine Qb.alloc ?_ _)|(with_reducible refine Qb.drew ?_)))) hb2
  have FL2:Bk w2 L 29 #[.int .i64 lv.id,.int .i64 lv.ticks,.int .i64 lv.start.x,.int .i64 lv.start.y,.slice B lv.walls.length k,.slice B' lv.gates.length k',.int .i64 lv.fin.lo.x,.int .i64 lv.fin.lo.y,.int .i64 lv.fin.hi.x,.int .i64 lv.fin.hi.y,.int .i64 lv.bans]:=Bk.later (by(repeat first|(with_reducible first|assumption|exact kN _ _ _ (by first|assumption|simp<;>omega)|refine kA ?_ _|refine kD ?_|refine kW ?_ _|apply Bk.set'|refine kF ?_ (by simp<;>omega) _)|exact⟨by with_reducible rfl⟩|exact⟨by simp⟩)) hb2
  have d2:Below w.heap.size w w2:=Qa (by(with_reducible repeat first|assumption|apply bl0|apply blA|apply blD|apply blN|refine blF ?_ ‹_›|(apply blS;(simp<;>omega)))) hb2
  have y2:=d2.size
  have zL2:=FL2.lt
  have FP2:Own w2 w1.heap.size 39 3 Qd (.slice A6 rp.ins.length c6) rp.ins:=hI2.mono (by simp)
  have FH2:Own w2 w1.heap.size 3 1 Qe (.slice A7 rp.hs.length c7) rp.hs:=hH2.mono (by simp)
  clear hI2 hH2
  clear hb2 hD d1 y1
  obtain⟨⟨cL0,cL1,cL2,cL3,cL4,cL5,cL6,cL7,cL8,cL9,cL10⟩,cLf⟩:=FL2.c11
  obtain⟨R,hR⟩: ∃R,w2.heap.size=R:=⟨_,rfl⟩
  have qLR:L<R:=by omega
  go_wp2_with fail
  refine((Qab lv pl key ins B B' A2 k k' c2 _ (FD2.W.below ?b) (FD2.G.below ?b) (FD2.I.below ?b) FD2.e2 (by omega) (by omega) (by omega)).mono (fun _ _ h=>h.flip)).mono ?_
  case b=>(with_reducible repeat first|assumption|apply bl0|apply blA|apply blD|apply blN|refine blF ?_ ‹_›|(apply blS;(simp<;>omega)))
  rw[hrp,hok]
  rintro e w3 ⟨A8,c8,A9,c9,rfl,hI3,hH3, -,hb3⟩
  have FD3:Qb lv B B' k k' ins A2 c2 w3:=Qb.below (by(repeat(first|(with_reducible assumption)|(with_reducible refine Qb.alloc ?_ _)|(with_reducible refine Qb.drew ?_)))) hb3
  obtain⟨FL3,FR3⟩:Bk w3 L 29 #[.int .i64 lv.id,.int .i64 lv.ticks,.int .i64 lv.start.x,.int .i64 lv.start.y,.slice B lv.walls.length k,.slice B' lv.gates.length k',.int .i64 lv.fin.lo.x,.int .i64 lv.fin.lo.y,.int .i64 lv.fin.hi.x,.int .i64 lv.fin.hi.y,.int .i64 lv.bans]∧Bk w3 R 33 #[.int .i64 rp.lv,.int .i64 rp.pl,.int .i64 rp.sc,.slice A6 rp.ins.length c6,.slice A7 rp.hs.length c7,.int .i64 rp.tag]:=by refine⟨Bk.later ?_ hb3,Bk.later ?_ hb3⟩<;>(repeat first|(with_reducible first|assumption|exact kN _ _ _ (by first|assumption|simp<;>omega)|refine kA ?_ _|refine kD ?_|refine kW ?_ _|apply Bk.set'|refine kF ?_ (by simp<;>omega) _)|exact⟨by with_reducible rfl⟩|exact⟨by simp⟩)
  obtain⟨FP3,FH3⟩:Own w3 w1.heap.size 39 3 Qd (.slice A6 rp.ins.length c6) rp.ins∧Own w3 w1.heap.size 3 1 Qe (.slice A7 rp.hs.length c7) rp.hs:=by refine⟨Own.later ?_ hb3,Own.later ?_ hb3⟩<;>(with_reducible repeat first|assumption|refine Own.alloc ?_ _|refine Own.drew ?_|refine Own.set (by first|omega|simp<;>omega) ?_ _)
  have d3:Below w.heap.size w w3:=Qa (by(with_reducible repeat first|assumption|apply bl0|apply blA|apply blD|apply blN|refine blF ?_ ‹_›|(apply blS;(simp<;>omega)))) hb3
  have y3:=d3.size
  have zL3:=FL3.lt
  have zR3:=FR3.lt
  have FU3:Own w3 w2.heap.size 39 3 Qd (.slice A8 rp.ins.length c8) rp.ins:=hI3.mono (by simp)
  have FV3:Own w3 w2.heap.size 3 1 Qe (.slice A9 rp.hs.length c9) rp.hs:=hH3.mono (by simp)
  clear hI3 hH3
  clear hb3 FD2 FL2 FP2 FH2 d2 y2 zL2 cL0 cL1 cL2 cL3 cL4 cL5 cL6 cL7 cL8 cL9 cL10 cLf
  obtain⟨⟨cL0,cL1,cL2,cL3,cL4,cL5,cL6,cL7,cL8,cL9,cL10⟩,cLf⟩:=FL3.c11
  obtain⟨⟨cR0,cR1,cR2,cR3,cR4,cR5⟩,cRf⟩:=FR3.c6
  obtain⟨Q,hQ⟩: ∃Q,w3.heap.size=Q:=⟨_,rfl⟩
  have qLQ:L<Q:=by omega
  have qRQ:R<Q:=by omega
  go_wp2_with fail
  refine(Jp rp A6 A7 A8 A9 c6 c7 c8 c9 _ ((FP3.sl' Qh).below (by(with_reducible repeat first|assumption|apply bl0|apply blA|apply blD|apply blN|refine blF ?_ ‹_›|(apply blS;(simp<;>omega))))) ((FH3.sl' Qi).below (by(with_reducible repeat first|assumption|apply bl0|apply blA|apply blD|apply blN|refine blF ?_ ‹_›|(apply blS;(simp<;>omega))))) ((FU3.sl' Qh).below (by(with_reducible repeat first|assumption|apply bl0|apply blA|apply blD|apply blN|refine blF ?_ ‹_›|(apply blS;(simp<;>omega))))) ((FV3.sl' Qi).below (by(with_reducible repeat first|assumption|apply bl0|apply blA|apply blD|apply blN|refine blF ?_ ‹_›|(apply blS;(simp<;>omega))))) (by(try dsimp only);omega) (by(try dsimp only);omega)).mono ?_
  rintro e w4 ⟨rfl,hb4⟩
  have FD4:Qb lv B B' k k' ins A2 c2 w4:=Qb.below (by(repeat(first|(with_reducible assumption)|(with_reducible refine Qb.alloc ?_ _)|(with_reducible refine Qb.drew ?_)))) hb4
  obtain⟨FP4,FH4,FU4,FV4⟩:Own w4 w1.heap.size 39 3 Qd (.slice A6 rp.ins.length c6) rp.ins∧Own w4 w1.heap.size 3 1 Qe (.slice A7 rp.hs.length c7) rp.hs∧Own w4 w2.heap.size 39 3 Qd (.slice A8 rp.ins.length c8) rp.ins∧Own w4 w2.heap.size 3 1 Qe (.slice A9 rp.hs.length c9) rp.hs:=by refine⟨Own.later ?_ hb4,Own.later ?_ hb4,Own.later ?_ hb4,Own.later ?_ hb4⟩<;>(with_reducible repeat first|assumption|refine Own.alloc ?_ _|refine Own.drew ?_|refine Own.set (by first|omega|simp<;>omega) ?_ _)
  obtain⟨FR4,FQ4⟩:Bk w4 R 33 #[.int .i64 rp.lv,.int .i64 rp.pl,.int .i64 rp.sc,.slice A6 rp.ins.length c6,.slice A7 rp.hs.length c7,.int .i64 rp.tag]∧Bk w4 Q 33 #[.int .i64 rp.lv,.int .i64 rp.pl,.int .i64 rp.sc,.slice A8 rp.ins.length c8,.slice A9 rp.hs.length c9,.int .i64 rp.tag]:=by refine⟨Bk.later ?_ hb4,Bk.later ?_ hb4⟩<;>(repeat first|(with_reducible first|assumption|exact kN _ _ _ (by first|assumption|simp<;>omega)|refine kA ?_ _|refine kD ?_|refine kW ?_ _|apply Bk.set'|refine kF ?_ (by simp<;>omega) _)|exact⟨by with_reducible rfl⟩|exact⟨by simp⟩)
  have d4:Below w.heap.size w w4:=Qa (by(with_reducible repeat first|assumption|apply bl0|apply blA|apply blD|apply blN|refine blF ?_ ‹_›|(apply blS;(simp<;>omega)))) hb4
  have y4:=d4.size
  have zR4:=FR4.lt
  have zQ4:=FQ4.lt
  clear hb4 FD3 FL3 FP3 FH3 FR3 FU3 FV3 d3 y3 zL3 zR3 cL0 cL1 cL2 cL3 cL4 cL5 cL6 cL7 cL8 cL9 cL10 cLf cR0 cR1 cR2 cR3 cR4 cR5 cRf
  obtain⟨⟨cR0,cR1,cR2,cR3,cR4,cR5⟩,cRf⟩:=FR4.c6
  obtain⟨⟨cQ0,cQ1,cQ2,cQ3,cQ4,cQ5⟩,cQf⟩:=FQ4.c6
  go_wp2_with fail
  refine(Jp rp A6 A7 A8 A9 c6 c7 c8 c9 _ ((FP4.sl' Qh).below (by(with_reducible repeat first|assumption|apply bl0|apply blA|apply blD|apply blN|refine blF ?_ ‹_›|(apply blS;(simp<;>omega))))) ((FH4.sl' Qi).below (by(with_reducible repeat first|assumption|apply bl0|apply blA|apply blD|apply blN|refine blF ?_ ‹_›|(apply blS;(simp<;>omega))))) ((FU4.sl' Qh).below (by(with_reducible repeat first|assumption|apply bl0|apply blA|apply blD|apply blN|refine blF ?_ ‹_›|(apply blS;(simp<;>omega))))) ((FV4.sl' Qi).below (by(with_reducible repeat first|assumption|apply bl0|apply blA|apply blD|apply blN|refine blF ?_ ‹_›|(apply blS;(simp<;>omega))))) (by(try dsimp only);omega) (by(try dsimp only);omega)).mono ?_
  rintro e w5 ⟨rfl,hb5⟩
  have FD5:Qb lv B B' k k' ins A2 c2 w5:=Qb.below (by(repeat(first|(with_reducible assumption)|(with_reducible refine Qb.alloc ?_ _)|(with_reducible refine Qb.drew ?_)))) hb5
  obtain⟨FP5,FH5,FU5,FV5⟩:Own w5 w1.heap.size 39 3 Qd (.slice A6 rp.ins.length c6) rp.ins∧Own w5 w1.heap.size 3 1 Qe (.slice A7 rp.hs.length c7) rp.hs∧Own w5 w2.heap.size 39 3 Qd (.slice A8 rp.ins.length c8) rp.ins∧Own w5 w2.heap.size 3 1 Qe (.slice A9 rp.hs.length c9) rp.hs:=by refine⟨Own.later ?_ hb5,Own.later ?_ hb5,Own.later ?_ hb5,Own.later ?_ hb5⟩<;>(with_reducible repeat first|assumption|refine Own.alloc ?_ _|refine Own.drew ?_|refine Own.set (by first|omega|simp<;>omega) ?_ _)
  have d5:Below w.heap.size w w5:=Qa (by(with_reducible repeat first|assumption|apply bl0|apply blA|apply blD|apply blN|refine blF ?_ ‹_›|(apply blS;(simp<;>omega)))) hb5
  have y5:=d5.size
  clear hb5 FD4 FP4 FH4 FR4 FU4 FV4 FQ4 d4 y4 zR4 zQ4 cR0 cR1 cR2 cR3 cR4 cR5 cRf cQ0 cQ1 cQ2 cQ3 cQ4 cQ5 cQf
  go_wp2
  go_ret
  exact⟨rfl,by(with_reducible repeat first|assumption|apply bl0|apply blA|apply blD|apply blN|refine blF ?_ ‹_›|(apply blS;(simp<;>omega)))⟩
 ·obtain⟨mx,hs,tg,hrp,hmx,hhs,htg,hrk,hl1,hl2⟩:=Qcn hok
  have HMX:=Lib.hid hmx
  have HHS:=Lib.hid hhs
  have HTG:=Lib.hid htg
  have HRK:=Lib.hid hrk
  have HOK:=Lib.hid hok
  clear hmx hhs htg hrk
  go_wp2_with fail
  refine((Jy lv pl key ins B B' A2 k k' c2 _ (hD.W.below ?b) (hD.G.below ?b) hD.e hD.e' (hD.I.below ?b) hD.e2 (by omega) (by omega) (by omega)).mono (fun _ _ h=>h.flip)).mono ?_
  case b=>(with_reducible repeat first|assumption|apply bl0|apply blA|apply blD|apply blN|refine blF ?_ ‹_›|(apply blS;(simp<;>omega)))
  rw[hrp,hok]
  dsimp only
  rintro e w2 ⟨A6,c6,A7,c7,rfl,hI2,hH2, -,hb2⟩
  have FD2:Qb lv B B' k k' ins A2 c2 w2:=Qb.below (by(repeat(first|(with_reducible assumption)|(with_reducible refine Qb.alloc ?_ _)|(with_reducible refine Qb.drew ?_)))) hb2
  have FL2:Bk w2 L 29 #[.int .i64 lv.id,.int .i64 lv.ticks,.int .i64 lv.start.x,.int .i64 lv.start.y,.slice B lv.walls.length k,.slice B' lv.gates.length k',.int .i64 lv.fin.lo.x,.int .i64 lv.fin.lo.y,.int .i64 lv.fin.hi.x,.int .i64 lv.fin.hi.y,.int .i64 lv.bans]:=Bk.later (by(repeat first|(with_reducible first|assumption|exact kN _ _ _ (by first|assumption|simp<;>omega)|refine kA ?_ _|refine kD ?_|refine kW ?_ _|apply Bk.set'|refine kF ?_ (by simp<;>omega) _)|exact⟨by with_reducible rfl⟩|exact⟨by simp⟩)) hb2
  have d2:Below w.heap.size w w2:=Qa (by(with_reducible repeat first|assumption|apply bl0|apply blA|apply blD|apply blN|refine blF ?_ ‹_›|(apply blS;(simp<;>omega)))) hb2
  have y2:=d2.size
  have zL2:=FL2.lt
  have FP2:Own w2 w1.heap.size 39 3 Qd (.slice A6 ins.length c6) ins:=hI2.mono (by simp)
  have FH2:Own w2 w1.heap.size 3 1 Qe (.slice A7 hs.length c7) hs:=hH2.mono (by simp)
  clear hI2 hH2
  clear hb2 hD d1 y1
  obtain⟨⟨cL0,cL1,cL2,cL3,cL4,cL5,cL6,cL7,cL8,cL9,cL10⟩,cLf⟩:=FL2.c11
  obtain⟨R,hR⟩: ∃R,w2.heap.size=R:=⟨_,rfl⟩
  have qLR:L<R:=by omega
  go_wp2_with fail
  refine((Qab lv pl key ins B B' A2 k k' c2 _ (FD2.W.below ?b) (FD2.G.below ?b) (FD2.I.below ?b) FD2.e2 (by omega) (by omega) (by omega)).mono (fun _ _ h=>h.flip)).mono ?_
  case b=>(with_reducible repeat first|assumption|apply bl0|apply blA|apply blD|apply blN|refine blF ?_ ‹_›|(apply blS;(simp<;>omega)))
  rw[hrp,hok]
  dsimp only
  rintro e w3 ⟨A8,c8,A9,c9,rfl,hI3,hH3, -,hb3⟩
  have FD3:Qb lv B B' k k' ins A2 c2 w3:=Qb.below (by(repeat(first|(with_reducible assumption)|(with_reducible refine Qb.alloc ?_ _)|(with_reducible refine Qb.drew ?_)))) hb3
  obtain⟨FL3,FR3⟩:Bk w3 L 29 #[.int .i64 lv.id,.int .i64 lv.ticks,.int .i64 lv.start.x,.int .i64 lv.start.y,.slice B lv.walls.length k,.slice B' lv.gates.length k',.int .i64 lv.fin.lo.x,.int .i64 lv.fin.lo.y,.int .i64 lv.fin.hi.x,.int .i64 lv.fin.hi.y,.int .i64 lv.bans]∧Bk w3 R 33 #[.int .i64 lv.id,.int .i64 pl,.int .i64 mx,.slice A6 ins.length c6,.slice A7 hs.length c7,.int .i64 tg]:=by refine⟨Bk.later ?_ hb3,Bk.later ?_ hb3⟩<;>(repeat first|(with_reducible first|assumption|exact kN _ _ _ (by first|assumption|simp<;>omega)|refine kA ?_ _|refine kD ?_|refine kW ?_ _|apply Bk.set'|refine kF ?_ (by simp<;>omega) _)|exact⟨by with_reducible rfl⟩|exact⟨by simp⟩)
  obtain⟨FP3,FH3⟩:Own w3 w1.heap.size 39 3 Qd (.slice A6 ins.length c6) ins∧Own w3 w1.heap.size 3 1 Qe (.slice A7 hs.length c7) hs:=by refine⟨Own.later ?_ hb3,Own.later ?_ hb3⟩<;>(with_reducible repeat first|assumption|refine Own.alloc ?_ _|refine Own.drew ?_|refine Own.set (by first|omega|simp<;>omega) ?_ _)
  have d3:Below w.heap.size w w3:=Qa (by(with_reducible repeat first|assumption|apply bl0|apply blA|apply blD|apply blN|refine blF ?_ ‹_›|(apply blS;(simp<;>omega)))) hb3
  have y3:=d3.size
  have zL3:=FL3.lt
  have zR3:=FR3.lt
  have FU3:Own w3 w2.heap.size 39 3 Qd (.slice A8 ins.length c8) ins:=hI3.mono (by simp)
  have FV3:Own w3 w2.heap.size 3 1 Qe (.slice A9 hs.length c9) hs:=hH3.mono (by simp)
  clear hI3 hH3
  clear hb3 FD2 FL2 FP2 FH2 d2 y2 zL2 cL0 cL1 cL2 cL3 cL4 cL5 cL6 cL7 cL8 cL9 cL10 cLf
  obtain⟨⟨cL0,cL1,cL2,cL3,cL4,cL5,cL6,cL7,cL8,cL9,cL10⟩,cLf⟩:=FL3.c11
  obtain⟨⟨cR0,cR1,cR2,cR3,cR4,cR5⟩,cRf⟩:=FR3.c6
  obtain⟨Q,hQ⟩: ∃Q,w3.heap.size=Q:=⟨_,rfl⟩
  have qLQ:L<Q:=by omega
  have qRQ:R<Q:=by omega
  go_wp2_with fail
  refine(Jp ⟨lv.id,pl,mx,ins,hs,tg⟩ A6 A7 A8 A9 c6 c7 c8 c9 _ ((FP3.sl' Qh).below (by(with_reducible repeat first|assumption|apply bl0|apply blA|apply blD|apply blN|refine blF ?_ ‹_›|(apply blS;(simp<;>omega))))) ((FH3.sl' Qi).below (by(with_reducible repeat first|assumption|apply bl0|apply blA|apply blD|apply blN|refine blF ?_ ‹_›|(apply blS;(simp<;>omega))))) ((FU3.sl' Qh).below (by(with_reducible repeat first|assumption|apply bl0|apply blA|apply blD|apply blN|refine blF ?_ ‹_›|(apply blS;(simp<;>omega))))) ((FV3.sl' Qi).below (by(with_reducible repeat first|assumption|apply bl0|apply blA|apply blD|apply blN|refine blF ?_ ‹_›|(apply blS;(simp<;>omega))))) (by(try dsimp only);omega) (by(try dsimp only);omega)).mono ?_
  rintro e w4 ⟨rfl,hb4⟩
  have FD4:Qb lv B B' k k' ins A2 c2 w4:=Qb.below (by(repeat(first|(with_reducible assumption)|(with_reducible refine Qb.alloc ?_ _)|(with_reducible refine Qb.drew ?_)))) hb4
  obtain⟨FL4,FR4⟩:Bk w4 L 29 #[.int .i64 lv.id,.int .i64 lv.ticks,.int .i64 lv.start.x,.int .i64 lv.start.y,.slice B lv.walls.length k,.slice B' lv.gates.length k',.int .i64 lv.fin.lo.x,.int .i64 lv.fin.lo.y,.int .i64 lv.fin.hi.x,.int .i64 lv.fin.hi.y,.int .i64 lv.bans]∧Bk w4 R 33 #[.int .i64 lv.id,.int .i64 pl,.int .i64 mx,.slice A6 ins.length c6,.slice A7 hs.length c7,.int .i64 tg]:=by refine⟨Bk.later ?_ hb4,Bk.later ?_ hb4⟩<;>(repeat first|(with_reducible first|assumption|exact kN _ _ _ (by first|assumption|simp<;>omega)|refine kA ?_ _|refine kD ?_|refine kW ?_ _|apply Bk.set'|refine kF ?_ (by simp<;>omega) _)|exact⟨by with_reducible rfl⟩|exact⟨by simp⟩)
  obtain⟨FP4,FH4⟩:Own w4 w1.heap.size 39 3 Qd (.slice A6 ins.length c6) ins∧Own w4 w1.heap.size 3 1 Qe (.slice A7 hs.length c7) hs:=by refine⟨Own.later ?_ hb4,Own.later ?_ hb4⟩<;>(with_reducible repeat first|assumption|refine Own.alloc ?_ _|refine Own.drew ?_|refine Own.set (by first|omega|simp<;>omega) ?_ _)
  have d4:Below w.heap.size w w4:=Qa (by(with_reducible repeat first|assumption|apply bl0|apply blA|apply blD|apply blN|refine blF ?_ ‹_›|(apply blS;(simp<;>omega)))) hb4
  have y4:=d4.size
  have zL4:=FL4.lt
  have zR4:=FR4.lt
  clear hb4 FD3 FL3 FP3 FH3 FR3 FU3 FV3 d3 y3 zL3 zR3 cL0 cL1 cL2 cL3 cL4 cL5 cL6 cL7 cL8 cL9 cL10 cLf cR0 cR1 cR2 cR3 cR4 cR5 cRf
  obtain⟨⟨cL0,cL1,cL2,cL3,cL4,cL5,cL6,cL7,cL8,cL9,cL10⟩,cLf⟩:=FL4.c11
  obtain⟨⟨cR0,cR1,cR2,cR3,cR4,cR5⟩,cRf⟩:=FR4.c6
  have HMR:Hid (Zv lv pl key ins=⟨lv.id,pl,mx,ins,hs,tg⟩):=Lib.hid (by rw[←hrp];unfold Zu;rw[hok,if_pos rfl])
  clear hrp hok
  have FHn:=FH4.none_cap
  have sP:=FP4.sl' Qh
  have sH:=FH4.sl' Qi
  have hkb:=(JS.1 HOK.out).2.2
  obtain⟨u,hu⟩: ∃u:Int,1+(key+(nm:Int) % 9998) % 9999=u:=⟨_,rfl⟩
  have u1:1≤u∧u≤9999:=by omega
  have hku:inR 1 9999 u=true:=Q5.2 u1
  obtain⟨vd,hvd⟩: ∃vd,QM lv u ⟨lv.id,pl,mx,ins,hs,tg⟩=vd:=⟨_,rfl⟩
  obtain⟨tu,htu⟩: ∃tu,tagL u (QK ⟨lv.id,pl,mx,ins,hs,tg⟩)=tu:=⟨_,rfl⟩
  have hmk:tu≠tg→vd=4:=fun hne=>by have h:=QsV (k:=u) HOK.out hku;rw[HMR.out,hvd,htu] at h;exact h hne
  have HMK:=Lib.hid hmk
  have HVD:=Lib.hid hvd
  have HTU:=Lib.hid htu
  clear hvd htu hmk
  go_wp2_with fail
  try rw[hu]
  refine(QaN az lv u ⟨lv.id,pl,mx,ins,hs,tg⟩ B B' A6 A7 k k' c6 c7 _ (FD4.W.below ?b) (FD4.G.below ?b) FD4.e FD4.e' (by omega) (by omega) (sP.below (by(with_reducible repeat first|assumption|apply bl0|apply blA|apply blD|apply blN|refine blF ?_ ‹_›|(apply blS;(simp<;>omega))))) (sH.below (by(with_reducible repeat first|assumption|apply bl0|apply blA|apply blD|apply blN|refine blF ?_ ‹_›|(apply blS;(simp<;>omega))))) FHn (by(try dsimp only);omega) (by(try dsimp only);omega) (SZ.out.below (by(with_reducible repeat first|assumption|apply bl0|apply blA|apply blD|apply blN|refine blF ?_ ‹_›|(apply blS;(simp<;>omega)))))).mono ?_
  case b=>(with_reducible repeat first|assumption|apply bl0|apply blA|apply blD|apply blN|refine blF ?_ ‹_›|(apply blS;(simp<;>omega)))
  rw[HVD.out]
  rintro e w5 ⟨rfl,hb5⟩
  have FD5:Qb lv B B' k k' ins A2 c2 w5:=Qb.below (by(repeat(first|(with_reducible assumption)|(with_reducible refine Qb.alloc ?_ _)|(with_reducible refine Qb.drew ?_)))) hb5
  obtain⟨FP5,FH5⟩:Own w5 w1.heap.size 39 3 Qd (.slice A6 ins.length c6) ins∧Own w5 w1.heap.size 3 1 Qe (.slice A7 hs.length c7) hs:=by refine⟨Own.later ?_ hb5,Own.later ?_ hb5⟩<;>(with_reducible repeat first|assumption|refine Own.alloc ?_ _|refine Own.drew ?_|refine Own.set (by first|omega|simp<;>omega) ?_ _)
  have FR5:Bk w5 R 33 #[.int .i64 lv.id,.int .i64 pl,.int .i64 mx,.slice A6 ins.length c6,.slice A7 hs.length c7,.int .i64 tg]:=Bk.later (by(repeat first|(with_reducible first|assumption|exact kN _ _ _ (by first|assumption|simp<;>omega)|refine kA ?_ _|refine kD ?_|refine kW ?_ _|apply Bk.set'|refine kF ?_ (by simp<;>omega) _)|exact⟨by with_reducible rfl⟩|exact⟨by simp⟩)) hb5
  have d5:Below w.heap.size w w5:=Qa (by(with_reducible repeat first|assumption|apply bl0|apply blA|apply blD|apply blN|refine blF ?_ ‹_›|(apply blS;(simp<;>omega)))) hb5
  have y5:=d5.size
  have zR5:=FR5.lt
  clear hb5 FD4 FL4 FP4 FH4 FR4 d4 y4 zL4 zR4 cL0 cL1 cL2 cL3 cL4 cL5 cL6 cL7 cL8 cL9 cL10 cLf cR0 cR1 cR2 cR3 cR4 cR5 cRf
  obtain⟨⟨cR0,cR1,cR2,cR3,cR4,cR5⟩,cRf⟩:=FR5.c6
  clear sP sH
  have HRL:Hid (repL ⟨lv.id,pl,mx,ins,hs,tg⟩=QK ⟨lv.id,pl,mx,ins,hs,tg⟩):=Lib.hid (by unfold repL;rw[HRK.out,if_pos rfl])
  have HBD:=Lib.hid (QbH HRK.out)
  have hrl:(QK ⟨lv.id,pl,mx,ins,hs,tg⟩).length≤200:=by rw[QaQ];dsimp only;omega
  clear HTG
  generalize QK ⟨lv.id,pl,mx,ins,hs,tg⟩=ls at HRL HBD hrl HTU
  have sP:=FP5.sl' Qh
  have sH:=FH5.sl' Qi
  by_cases ht:tu=tg
  ·have hb:(tu == tg)=true:=by rw[beq_iff_eq];exact ht
   go_wp2
   rw[show Op.move (.tmp 14)=Qyb (.tmp 14) from rfl,show Op.binOp BinOp.eql 3 (.tmp 86) (.const (.int .i64 4)) 3=Qya 3 (.tmp 86) from rfl]
   go_region_held3 (fun w'=>(w'.cell? ⟨R,0,none⟩=some (.int .i64 lv.id)∧w'.cell? ⟨R,1,none⟩=some (.int .i64 pl)∧w'.cell? ⟨R,2,none⟩=some (.int .i64 mx)∧w'.cell? ⟨R,3,none⟩=some (.slice A6 ins.length c6)∧w'.cell? ⟨R,4,none⟩=some (.slice A7 hs.length c7)∧w'.cell? ⟨R,5,none⟩=some (.int .i64 tg)))
    (with_reducible exact Zt FR5 (by(with_reducible repeat first|assumption|apply bl0|apply blA|apply blD|apply blN|refine blF ?_ ‹_›|(apply blS;(simp<;>omega)))))
    (first
    |(go_at_call 15;refine(JZ A6 A7 c6 c7 ⟨lv.id,pl,mx,ins,hs,tg⟩ _ (sP.below (by(with_reducible repeat first|assumption|apply bl0|apply blA|apply blD|apply blN|refine blF ?_ ‹_›|(apply blS;(simp<;>omega))))) (sH.below (by(with_reducible repeat first|assumption|apply bl0|apply blA|apply blD|apply blN|refine blF ?_ ‹_›|(apply blS;(simp<;>omega))))) (by(try dsimp only);omega) (by(try dsimp only);omega) FHn).mono ?_;rw[HRL.out];rintro e w6 ⟨A11,c11,rfl,hc11,hO11,hb6⟩;have D6:Below w5.heap.size w5 w6:=Qa (by(with_reducible repeat first|assumption|apply bl0|apply blA|apply blD|apply blN|refine blF ?_ ‹_›|(apply blS;(simp<;>omega)))) hb6)
    |(go_at_call 14;refine(Qcb u A11 _ c11 ls _ ((hO11.sl' Qi).below (by(with_reducible repeat first|assumption|apply bl0|apply blA|apply blD|apply blN|refine blF ?_ ‹_›|(apply blS;(simp<;>omega))))) (by omega) hrl (fun a e=>Nat.lt_of_lt_of_le (hO11.alt a e) (by first|exact Nat.le_refl _|(simp;done))) hku HBD.out).mono ?_;rw[HTU.out];rintro e w7 ⟨rfl,hb7⟩;have D7:Below w5.heap.size w5 w7:=Qa (by(with_reducible repeat first|assumption|apply bl0|apply blA|apply blD|apply blN|refine blF ?_ ‹_›|(apply blS;(simp<;>omega)))) hb7)
    |fail "no arm")
   all_goals
    have D8:=Qa d5 D7
    go_wp2
    go_ret
    exact⟨rfl,by(with_reducible repeat first|assumption|apply bl0|apply blA|apply blD|apply blN|refine blF ?_ ‹_›|(apply blS;(simp<;>omega)))⟩
  ·have hb:(tu == tg)=false:=by rw[beq_eq_false_iff_ne];exact ht
   obtain rfl:vd=4:=HMK.out ht
   go_wp2
   go_region_held3 (fun w'=>(w'.cell? ⟨R,0,none⟩=some (.int .i64 lv.id)∧w'.cell? ⟨R,1,none⟩=some (.int .i64 pl)∧w'.cell? ⟨R,2,none⟩=some (.int .i64 mx)∧w'.cell? ⟨R,3,none⟩=some (.slice A6 ins.length c6)∧w'.cell? ⟨R,4,none⟩=some (.slice A7 hs.length c7)∧w'.cell? ⟨R,5,none⟩=some (.int .i64 tg)))
    (with_reducible exact Zt FR5 (by(with_reducible repeat first|assumption|apply bl0|apply blA|apply blD|apply blN|refine blF ?_ ‹_›|(apply blS;(simp<;>omega)))))
    (first
    |(go_at_call 15;refine(JZ A6 A7 c6 c7 ⟨lv.id,pl,mx,ins,hs,tg⟩ _ (sP.below (by(with_reducible repeat first|assumption|apply bl0|apply blA|apply blD|apply blN|refine blF ?_ ‹_›|(apply blS;(simp<;>omega))))) (sH.below (by(with_reducible repeat first|assumption|apply bl0|apply blA|apply blD|apply blN|refine blF ?_ ‹_›|(apply blS;(simp<;>omega))))) (by(try dsimp only);omega) (by(try dsimp only);omega) FHn).mono ?_;rw[HRL.out];rintro e w6 ⟨A11,c11,rfl,hc11,hO11,hb6⟩;have D6:Below w5.heap.size w5 w6:=Qa (by(with_reducible repeat first|assumption|apply bl0|apply blA|apply blD|apply blN|refine blF ?_ ‹_›|(apply blS;(simp<;>omega)))) hb6)
    |(go_at_call 14;refine(Qcb u A11 _ c11 ls _ ((hO11.sl' Qi).below (by(with_reducible repeat first|assumption|apply bl0|apply blA|apply blD|apply blN|refine blF ?_ ‹_›|(apply blS;(simp<;>omega))))) (by omega) hrl (fun a e=>Nat.lt_of_lt_of_le (hO11.alt a e) (by first|exact Nat.le_refl _|(simp;done))) hku HBD.out).mono ?_;rw[HTU.out];rintro e w7 ⟨rfl,hb7⟩;have D7:Below w5.heap.size w5 w7:=Qa (by(with_reducible repeat first|assumption|apply bl0|apply blA|apply blD|apply blN|refine blF ?_ ‹_›|(apply blS;(simp<;>omega)))) hb7)
    |fail "no arm")
   all_goals
    have D8:=Qa d5 D7
    go_wp2
    go_ret
    exact⟨rfl,by(with_reducible repeat first|assumption|apply bl0|apply blA|apply blD|apply blN|refine blF ?_ ‹_›|(apply blS;(simp<;>omega)))⟩
end Go.Proofs.YtpmjcjoeckajgaaGreatDoor
