/- The law FnExactVerifyReplay: its walk. Printed by gen/lawvrx.py. (Round C, cards) -/
import Derived.Test.YtpmjcjoeckajgaaGreatDoorVerE
import Derived.Test.YtpmjcjoeckajgaaGreatDoorVerD
import Derived.Test.YtpmjcjoeckajgaaGreatDoorZConv
import Derived.Test.YtpmjcjoeckajgaaGreatDoorZBase
import Derived.Test.YtpmjcjoeckajgaaGreatDoorRunQ
import Derived.Test.YtpmjcjoeckajgaaGreatDoorMkL
import Derived.Deep.RegionHeld3
import Derived.Deep.DeepMust
namespace Go.Proofs.YtpmjcjoeckajgaaGreatDoor
open Go.ChangeShapes Go.WideShapes Go.ChangeAt Go.RowKit
theorem Qv8{n n':Nat}{k:Int}(hk:k≤1048576)(h: ¬JD n n' k<0):n≤1048576∧n'≤1048576:=by
 unfold JD szL at h
 (repeat' split at h)<;>omega
set_option maxRecDepth 100000 in
set_option maxHeartbeats 8000000 in
theorem QrT(az:Nat→Addr)(l:Lev)(key:Int)(r:Rep)(A A' A2 A3:Option Addr)(c c' c2 c3:Nat)(w:World)(h:Sl w 4 Qc A l.walls.length l.walls)(hg:Sl w 4 Qc A' l.gates.length l.gates)(hs:Sl w 3 Qd A2 r.ins.length r.ins)(hs':Sl w 1 Qe A3 r.hs.length r.hs)(hn1:(l.walls.length:Nat)≤9223372036854775807)(hn2:(l.gates.length:Nat)≤9223372036854775807)(hn3:(r.ins.length:Nat)≤9223372036854775807)(hn4:(r.hs.length:Nat)≤9223372036854775807)(sz:Jj az w):
 Calls Sq.prog 9 #[.agg #[.int .i64 l.id,.int .i64 l.ticks,.int .i64 l.start.x,.int .i64 l.start.y,.slice A l.walls.length c,.slice A' l.gates.length c',.int .i64 l.fin.lo.x,.int .i64 l.fin.lo.y,.int .i64 l.fin.hi.x,.int .i64 l.fin.hi.y,.int .i64 l.bans],.int .i64 key,.agg #[.int .i64 r.lv,.int .i64 r.pl,.int .i64 r.sc,.slice A2 r.ins.length c2,.slice A3 r.hs.length c3,.int .i64 r.tag]] w fun e w'=>e= .returned (.bool (true))∧Below w.heap.size w w':=by
 have SZ:=Lib.hid sz
 clear sz
 obtain⟨z0,z1⟩:=QcF (n:=l.walls.length) (n':=l.gates.length)
 obtain⟨kz,hkz⟩: ∃kz,JC l.walls.length l.gates.length 1048576=kz:=⟨_,rfl⟩
 have HKZ:=Lib.hid hkz
 have hm: ¬kz<0→l.walls.length≤1048576∧l.gates.length≤1048576:=fun h=>QcG (by rw[hkz];exact h)
 rw[hkz] at z0 z1
 clear hkz
 by_cases hz:kz<0
 ·go_enter Sq.func9, Tryz.ntmps9
  go_wp2_with (go_at_call 22;refine(XH _ _ _ _ _ _ _ _ _ _ _ _ _ _ _ _ _ (by omega) (by omega) hn1 hn2).mono ?_;rw[HKZ.out];rintro e w1 ⟨rfl,hb1⟩)
  go_ret
  exact⟨rfl,by(with_reducible repeat first|assumption|apply bl0|apply blA|apply blD|apply blN|refine blF ?_ ‹_›|(apply blS;(simp<;>omega)))⟩
 obtain⟨m1,m2⟩:=hm hz
 obtain⟨kq,hkq⟩: ∃kq,JD r.ins.length r.hs.length kz=kq:=⟨_,rfl⟩
 have HKQ:=Lib.hid hkq
 have hm3: ¬kq<0→r.ins.length≤1048576∧r.hs.length≤1048576:=fun h=>Qv8 z1 (by rw[hkq];exact h)
 clear hkq hm
 by_cases hz2:kq<0
 ·go_enter Sq.func9, Tryz.ntmps9
  go_wp2_with fail
  refine(XH _ _ _ _ _ _ _ _ _ _ _ _ _ _ _ _ _ (by omega) (by omega) hn1 hn2).mono ?_
  rw[HKZ.out]
  rintro e w1 ⟨rfl,hb1⟩
  have R1:Bk w1 (w.heap.size+1) 58 #[.int .i64 r.lv,.int .i64 r.pl,.int .i64 r.sc,.slice A2 r.ins.length c2,.slice A3 r.hs.length c3,.int .i64 r.tag]:=Bk.later (by(repeat first|(with_reducible first|assumption|exact kN _ _ _ (by first|assumption|simp<;>omega)|refine kA ?_ _|refine kD ?_|refine kW ?_ _|apply Bk.set'|refine kF ?_ (by simp<;>omega) _)|exact⟨by with_reducible rfl⟩|exact⟨by simp⟩)) hb1
  have d1:Below w.heap.size w w1:=by(with_reducible repeat first|assumption|apply bl0|apply blA|apply blD|apply blN|refine blF ?_ ‹_›|(apply blS;(simp<;>omega)))
  clear hb1
  obtain⟨⟨r0,r1,r2,r3,r4,r5⟩,rf⟩:=R1.c6
  have y1:=R1.lt
  go_wp2_with fail
  refine(QbO _ _ _ _ _ _ _ _ _ _ _ _ (by omega) (by omega) hn3 hn4).mono ?_
  rw[HKQ.out]
  rintro e w2 ⟨rfl,hb2⟩
  go_wp2
  go_ret
  exact⟨rfl,by(with_reducible repeat first|assumption|apply bl0|apply blA|apply blD|apply blN|refine blF ?_ ‹_›|(apply blS;(simp<;>omega)))⟩
 obtain⟨m3,m4⟩:=hm3 hz2
 clear hm3
 obtain⟨tv,htv⟩: ∃tv,QM l key r=tv:=⟨_,rfl⟩
 have HTV:=Lib.hid htv
 clear htv
 go_enter Sq.func9, Tryz.ntmps9
 go_wp2_with fail
 refine(XH _ _ _ _ _ _ _ _ _ _ _ _ _ _ _ _ _ (by omega) (by omega) hn1 hn2).mono ?_
 rw[HKZ.out]
 rintro e w1 ⟨rfl,hb1⟩
 obtain⟨P1,R1⟩:Bk w1 w.heap.size 55 #[.int .i64 l.id,.int .i64 l.ticks,.int .i64 l.start.x,.int .i64 l.start.y,.slice A l.walls.length c,.slice A' l.gates.length c',.int .i64 l.fin.lo.x,.int .i64 l.fin.lo.y,.int .i64 l.fin.hi.x,.int .i64 l.fin.hi.y,.int .i64 l.bans]∧Bk w1 (w.heap.size+1) 58 #[.int .i64 r.lv,.int .i64 r.pl,.int .i64 r.sc,.slice A2 r.ins.length c2,.slice A3 r.hs.length c3,.int .i64 r.tag]:=by refine⟨Bk.later ?_ hb1,Bk.later ?_ hb1⟩<;>(repeat first|(with_reducible first|assumption|exact kN _ _ _ (by first|assumption|simp<;>omega)|refine kA ?_ _|refine kD ?_|refine kW ?_ _|apply Bk.set'|refine kF ?_ (by simp<;>omega) _)|exact⟨by with_reducible rfl⟩|exact⟨by simp⟩)
 have d1:Below w.heap.size w w1:=by(with_reducible repeat first|assumption|apply bl0|apply blA|apply blD|apply blN|refine blF ?_ ‹_›|(apply blS;(simp<;>omega)))
 have y1:=R1.lt
 clear hb1
 obtain⟨⟨p0,p1,p2,p3,p4,p5,p6,p7,p8,p9,p10⟩,pf⟩:=P1.c11
 obtain⟨⟨r0,r1,r2,r3,r4,r5⟩,rf⟩:=R1.c6
 go_wp2_with fail
 refine(QbO _ _ _ _ _ _ _ _ _ _ _ _ (by omega) (by omega) hn3 hn4).mono ?_
 rw[HKQ.out]
 rintro e w2 ⟨rfl,hb2⟩
 have P2:Bk w2 w.heap.size 55 #[.int .i64 l.id,.int .i64 l.ticks,.int .i64 l.start.x,.int .i64 l.start.y,.slice A l.walls.length c,.slice A' l.gates.length c',.int .i64 l.fin.lo.x,.int .i64 l.fin.lo.y,.int .i64 l.fin.hi.x,.int .i64 l.fin.hi.y,.int .i64 l.bans]:=P1.later hb2
 have R2:Bk w2 (w.heap.size+1) 58 #[.int .i64 r.lv,.int .i64 r.pl,.int .i64 r.sc,.slice A2 r.ins.length c2,.slice A3 r.hs.length c3,.int .i64 r.tag]:=R1.later hb2
 have d2:Below w.heap.size w w2:=Qa d1 hb2
 have y2:=R2.lt
 clear hb2 P1 R1 d1 p0 p1 p2 p3 p4 p5 p6 p7 p8 p9 p10 pf r0 r1 r2 r3 r4 r5 rf
 go_wp2
 go_region_held3 (fun w'=>(w'.cell? ⟨w.heap.size,0,none⟩=some (.int .i64 l.id)∧w'.cell? ⟨w.heap.size,1,none⟩=some (.int .i64 l.ticks)∧w'.cell? ⟨w.heap.size,2,none⟩=some (.int .i64 l.start.x)∧w'.cell? ⟨w.heap.size,3,none⟩=some (.int .i64 l.start.y)∧w'.cell? ⟨w.heap.size,4,none⟩=some (.slice A l.walls.length c)∧w'.cell? ⟨w.heap.size,5,none⟩=some (.slice A' l.gates.length c')∧w'.cell? ⟨w.heap.size,6,none⟩=some (.int .i64 l.fin.lo.x)∧w'.cell? ⟨w.heap.size,7,none⟩=some (.int .i64 l.fin.lo.y)∧w'.cell? ⟨w.heap.size,8,none⟩=some (.int .i64 l.fin.hi.x)∧w'.cell? ⟨w.heap.size,9,none⟩=some (.int .i64 l.fin.hi.y)∧w'.cell? ⟨w.heap.size,10,none⟩=some (.int .i64 l.bans))∧(w'.cell? ⟨w.heap.size+1,0,none⟩=some (.int .i64 r.lv)∧w'.cell? ⟨w.heap.size+1,1,none⟩=some (.int .i64 r.pl)∧w'.cell? ⟨w.heap.size+1,2,none⟩=some (.int .i64 r.sc)∧w'.cell? ⟨w.heap.size+1,3,none⟩=some (.slice A2 r.ins.length c2)∧w'.cell? ⟨w.heap.size+1,4,none⟩=some (.slice A3 r.hs.length c3)∧w'.cell? ⟨w.heap.size+1,5,none⟩=some (.int .i64 r.tag)))
  (first|(refine⟨ZX P2 ?_,Zt R2 ?_⟩<;>((with_reducible repeat first|assumption|apply bl0|apply blA|apply blD|apply blN|refine blF ?_ ‹_›|(apply blS;(simp<;>omega)));done)))
  (first
  |(go_at_call 24;refine(XI l A A' c c' _ (h.below (Qa d2 (by(with_reducible repeat first|assumption|apply bl0|apply blA|apply blD|apply blN|refine blF ?_ ‹_›|(apply blS;(simp<;>omega)))))) (hg.below (Qa d2 (by(with_reducible repeat first|assumption|apply bl0|apply blA|apply blD|apply blN|refine blF ?_ ‹_›|(apply blS;(simp<;>omega)))))) (by omega) (by omega)).mono ?_;rintro e w3 ⟨A4,c4,A4',c4',rfl,G3,G3',hb3⟩)
  |(go_at_call 25;refine(Qaf A2 A3 c2 c3 r _ (hs.below (Qa d2 (by(with_reducible repeat first|assumption|apply bl0|apply blA|apply blD|apply blN|refine blF ?_ ‹_›|(apply blS;(simp<;>omega)))))) (hs'.below (Qa d2 (by(with_reducible repeat first|assumption|apply bl0|apply blA|apply blD|apply blN|refine blF ?_ ‹_›|(apply blS;(simp<;>omega)))))) (by omega) (by omega)).mono ?_;rintro e w4 ⟨A5,c5,A5',c5',rfl,G4,G4',hb4⟩)
  |(go_at_call 12;refine(Qe8 l key r A4 A4' A5 A5' c4 c4' c5 c5' _ ((G3.sl' Qv).below (by(with_reducible repeat first|assumption|apply bl0|apply blA|apply blD|apply blN|refine blF ?_ ‹_›|(apply blS;(simp<;>omega))))) ((G3'.sl' Qv).below (by(with_reducible repeat first|assumption|apply bl0|apply blA|apply blD|apply blN|refine blF ?_ ‹_›|(apply blS;(simp<;>omega))))) hn1 hn2 ((G4.sl' Qh).below (by(with_reducible repeat first|assumption|apply bl0|apply blA|apply blD|apply blN|refine blF ?_ ‹_›|(apply blS;(simp<;>omega))))) ((G4'.sl' Qi).below (by(with_reducible repeat first|assumption|apply bl0|apply blA|apply blD|apply blN|refine blF ?_ ‹_›|(apply blS;(simp<;>omega))))) (ZR G4') hn3 hn4).mono ?_;rw[HTV.out];rintro e w5 ⟨rfl,hb5⟩))
 have d5:Below w2.heap.size w2 w5:=by(with_reducible repeat first|assumption|apply bl0|apply blA|apply blD|apply blN|refine blF ?_ ‹_›|(apply blS;(simp<;>omega)))
 have P5:Bk w5 w.heap.size 55 #[.int .i64 l.id,.int .i64 l.ticks,.int .i64 l.start.x,.int .i64 l.start.y,.slice A l.walls.length c,.slice A' l.gates.length c',.int .i64 l.fin.lo.x,.int .i64 l.fin.lo.y,.int .i64 l.fin.hi.x,.int .i64 l.fin.hi.y,.int .i64 l.bans]:=P2.later d5
 have R5:Bk w5 (w.heap.size+1) 58 #[.int .i64 r.lv,.int .i64 r.pl,.int .i64 r.sc,.slice A2 r.ins.length c2,.slice A3 r.hs.length c3,.int .i64 r.tag]:=R2.later d5
 have D5:Below w.heap.size w w5:=Qa d2 d5
 have y5:=R5.lt
 clear hb3 hb4 hb5 G3 G3' G4 G4' P2 R2 d2 d5
 obtain⟨⟨p0,p1,p2,p3,p4,p5,p6,p7,p8,p9,p10⟩,pf⟩:=P5.c11
 obtain⟨⟨r0,r1,r2,r3,r4,r5⟩,rf⟩:=R5.c6
 go_wp2_with fail
 refine(XI l A A' c c' _ (h.below (by(with_reducible repeat first|assumption|apply bl0|apply blA|apply blD|apply blN|refine blF ?_ ‹_›|(apply blS;(simp<;>omega))))) (hg.below (by(with_reducible repeat first|assumption|apply bl0|apply blA|apply blD|apply blN|refine blF ?_ ‹_›|(apply blS;(simp<;>omega))))) (by omega) (by omega)).mono ?_
 rintro e w6 ⟨A6,c6,A6',c6',rfl,G6,G6',hb6⟩
 have P6:Bk w6 w.heap.size 55 #[.int .i64 l.id,.int .i64 l.ticks,.int .i64 l.start.x,.int .i64 l.start.y,.slice A l.walls.length c,.slice A' l.gates.length c',.int .i64 l.fin.lo.x,.int .i64 l.fin.lo.y,.int .i64 l.fin.hi.x,.int .i64 l.fin.hi.y,.int .i64 l.bans]:=P5.later hb6
 have R6:Bk w6 (w.heap.size+1) 58 #[.int .i64 r.lv,.int .i64 r.pl,.int .i64 r.sc,.slice A2 r.ins.length c2,.slice A3 r.hs.length c3,.int .i64 r.tag]:=R5.later hb6
 have D6:Below w.heap.size w w6:=Qa D5 hb6
 have e6:=ZR G6
 have e6':=ZR G6'
 have s6:=G6.sl' Qv
 have s6':=G6'.sl' Qv
 have y6:=R6.lt
 clear hb6 P5 R5 D5 G6 G6' p0 p1 p2 p3 p4 p5 p6 p7 p8 p9 p10 pf r0 r1 r2 r3 r4 r5 rf
 obtain⟨⟨r0,r1,r2,r3,r4,r5⟩,rf⟩:=R6.c6
 go_wp2_with fail
 refine(Qaf A2 A3 c2 c3 r _ (hs.below (by(with_reducible repeat first|assumption|apply bl0|apply blA|apply blD|apply blN|refine blF ?_ ‹_›|(apply blS;(simp<;>omega))))) (hs'.below (by(with_reducible repeat first|assumption|apply bl0|apply blA|apply blD|apply blN|refine blF ?_ ‹_›|(apply blS;(simp<;>omega))))) (by omega) (by omega)).mono ?_
 rintro e w7 ⟨A7,c7,A7',c7',rfl,G7,G7',hb7⟩
 obtain⟨X7,P7,R7⟩:Bk w7 w6.heap.size 29 #[.int .i64 l.id,.int .i64 l.ticks,.int .i64 l.start.x,.int .i64 l.start.y,.slice A6 l.walls.length c6,.slice A6' l.gates.length c6',.int .i64 l.fin.lo.x,.int .i64 l.fin.lo.y,.int .i64 l.fin.hi.x,.int .i64 l.fin.hi.y,.int .i64 l.bans]∧Bk w7 w.heap.size 55 #[.int .i64 l.id,.int .i64 l.ticks,.int .i64 l.start.x,.int .i64 l.start.y,.slice A l.walls.length c,.slice A' l.gates.length c',.int .i64 l.fin.lo.x,.int .i64 l.fin.lo.y,.int .i64 l.fin.hi.x,.int .i64 l.fin.hi.y,.int .i64 l.bans]∧Bk w7 (w.heap.size+1) 58 #[.int .i64 r.lv,.int .i64 r.pl,.int .i64 r.sc,.slice A2 r.ins.length c2,.slice A3 r.hs.length c3,.int .i64 r.tag]:=by refine⟨Bk.later ?_ hb7,Bk.later ?_ hb7,Bk.later ?_ hb7⟩<;>(repeat first|(with_reducible first|assumption|exact kN _ _ _ (by first|assumption|simp<;>omega)|refine kA ?_ _|refine kD ?_|refine kW ?_ _|apply Bk.set'|refine kF ?_ (by simp<;>omega) _)|exact⟨by with_reducible rfl⟩|exact⟨by simp⟩)
 have D7:Below w.heap.size w w7:=Qa (by(with_reducible repeat first|assumption|apply bl0|apply blA|apply blD|apply blN|refine blF ?_ ‹_›|(apply blS;(simp<;>omega)))) hb7
 have s7:Sl w7 4 Qc A6 l.walls.length l.walls:=s6.below (Qa (by(with_reducible repeat first|assumption|apply bl0|apply blA|apply blD|apply blN|refine blF ?_ ‹_›|(apply blS;(simp<;>omega)))) hb7)
 have s7':Sl w7 4 Qc A6' l.gates.length l.gates:=s6'.below (Qa (by(with_reducible repeat first|assumption|apply bl0|apply blA|apply blD|apply blN|refine blF ?_ ‹_›|(apply blS;(simp<;>omega)))) hb7)
 have t7:=G7.sl' Qh
 have t7':=G7'.sl' Qi
 have e7:=ZR G7'
 have x7:=X7.lt
 clear hb7 P6 R6 D6 s6 s6' G7 G7' r0 r1 r2 r3 r4 r5 rf
 obtain⟨⟨x0,x1,x2,x3,x4,x5,x6,x7,x8,x9,x10⟩,xf⟩:=X7.c11
 have Y7:Bk (w7.alloc (.cells #[.int .i64 r.lv,.int .i64 r.pl,.int .i64 r.sc,.slice A7 r.ins.length c7,.slice A7' r.hs.length c7',.int .i64 r.tag] 33)) w7.heap.size 33 #[.int .i64 r.lv,.int .i64 r.pl,.int .i64 r.sc,.slice A7 r.ins.length c7,.slice A7' r.hs.length c7',.int .i64 r.tag]:=Bk.new w7 _ _ rfl
 go_wp2_with fail
 refine(QaN az l key r A6 A6' A7 A7' c6 c6' c7 c7' _ (s7.below (by(with_reducible repeat first|assumption|apply bl0|apply blA|apply blD|apply blN|refine blF ?_ ‹_›|(apply blS;(simp<;>omega))))) (s7'.below (by(with_reducible repeat first|assumption|apply bl0|apply blA|apply blD|apply blN|refine blF ?_ ‹_›|(apply blS;(simp<;>omega))))) e6 e6' hn1 hn2 (t7.below (by(with_reducible repeat first|assumption|apply bl0|apply blA|apply blD|apply blN|refine blF ?_ ‹_›|(apply blS;(simp<;>omega))))) (t7'.below (by(with_reducible repeat first|assumption|apply bl0|apply blA|apply blD|apply blN|refine blF ?_ ‹_›|(apply blS;(simp<;>omega))))) e7 hn3 hn4 (SZ.out.below (by(with_reducible repeat first|assumption|apply bl0|apply blA|apply blD|apply blN|refine blF ?_ ‹_›|(apply blS;(simp<;>omega)))))).mono ?_
 rw[HTV.out]
 rintro e w8 ⟨rfl,hb8⟩
 have b8:Below w7.heap.size w7 w8:=Qa (Qf (Below.refl _ _) _) hb8
 have X8:=X7.later b8
 have Y8:Bk w8 w7.heap.size 33 #[.int .i64 r.lv,.int .i64 r.pl,.int .i64 r.sc,.slice A7 r.ins.length c7,.slice A7' r.hs.length c7',.int .i64 r.tag]:=Y7.later hb8
 have P8:=P7.later b8
 have R8:=R7.later b8
 have s8:=s7.below b8
 have s8':=s7'.below b8
 have t8:=t7.below b8
 have t8':=t7'.below b8
 have D8:Below w.heap.size w w8:=Qa D7 b8
 clear hb8 b8 X7 Y7 P7 R7 D7 s7 s7' t7 t7' x0 x1 x2 x3 x4 x5 x6 x7 x8 x9 x10 xf
 go_wp2
 go_region_held3 (fun w'=>(w'.cell? ⟨w.heap.size,0,none⟩=some (.int .i64 l.id)∧w'.cell? ⟨w.heap.size,1,none⟩=some (.int .i64 l.ticks)∧w'.cell? ⟨w.heap.size,2,none⟩=some (.int .i64 l.start.x)∧w'.cell? ⟨w.heap.size,3,none⟩=some (.int .i64 l.start.y)∧w'.cell? ⟨w.heap.size,4,none⟩=some (.slice A l.walls.length c)∧w'.cell? ⟨w.heap.size,5,none⟩=some (.slice A' l.gates.length c')∧w'.cell? ⟨w.heap.size,6,none⟩=some (.int .i64 l.fin.lo.x)∧w'.cell? ⟨w.heap.size,7,none⟩=some (.int .i64 l.fin.lo.y)∧w'.cell? ⟨w.heap.size,8,none⟩=some (.int .i64 l.fin.hi.x)∧w'.cell? ⟨w.heap.size,9,none⟩=some (.int .i64 l.fin.hi.y)∧w'.cell? ⟨w.heap.size,10,none⟩=some (.int .i64 l.bans))∧(w'.cell? ⟨w6.heap.size,0,none⟩=some (.int .i64 l.id)∧w'.cell? ⟨w6.heap.size,1,none⟩=some (.int .i64 l.ticks)∧w'.cell? ⟨w6.heap.size,2,none⟩=some (.int .i64 l.start.x)∧w'.cell? ⟨w6.heap.size,3,none⟩=some (.int .i64 l.start.y)∧w'.cell? ⟨w6.heap.size,4,none⟩=some (.slice A6 l.walls.length c6)∧w'.cell? ⟨w6.heap.size,5,none⟩=some (.slice A6' l.gates.length c6')∧w'.cell? ⟨w6.heap.size,6,none⟩=some (.int .i64 l.fin.lo.x)∧w'.cell? ⟨w6.heap.size,7,none⟩=some (.int .i64 l.fin.lo.y)∧w'.cell? ⟨w6.heap.size,8,none⟩=some (.int .i64 l.fin.hi.x)∧w'.cell? ⟨w6.heap.size,9,none⟩=some (.int .i64 l.fin.hi.y)∧w'.cell? ⟨w6.heap.size,10,none⟩=some (.int .i64 l.bans)))
  (first|(refine Jh P8 X8 ?_;((with_reducible repeat first|assumption|apply bl0|apply blA|apply blD|apply blN|refine blF ?_ ‹_›|(apply blS;(simp<;>omega)));done)))
  (first
  |(go_at_call 24;refine(XI l A A' c c' _ (h.below (Qa D8 (by(with_reducible repeat first|assumption|apply bl0|apply blA|apply blD|apply blN|refine blF ?_ ‹_›|(apply blS;(simp<;>omega)))))) (hg.below (Qa D8 (by(with_reducible repeat first|assumption|apply bl0|apply blA|apply blD|apply blN|refine blF ?_ ‹_›|(apply blS;(simp<;>omega)))))) (by omega) (by omega)).mono ?_;rintro e w9 ⟨A9,c9,A9',c9',rfl,G9,G9',hb9⟩)
  |(go_at_call 26;refine(QbZ l A6 A6' A9 A9' c6 c6' c9 c9' _ (s8.below (by(with_reducible repeat first|assumption|apply bl0|apply blA|apply blD|apply blN|refine blF ?_ ‹_›|(apply blS;(simp<;>omega))))) (s8'.below (by(with_reducible repeat first|assumption|apply bl0|apply blA|apply blD|apply blN|refine blF ?_ ‹_›|(apply blS;(simp<;>omega))))) ((G9.sl' Qv).below (by(with_reducible repeat first|assumption|apply bl0|apply blA|apply blD|apply blN|refine blF ?_ ‹_›|(apply blS;(simp<;>omega))))) ((G9'.sl' Qv).below (by(with_reducible repeat first|assumption|apply bl0|apply blA|apply blD|apply blN|refine blF ?_ ‹_›|(apply blS;(simp<;>omega))))) (by omega) (by omega)).mono ?_;rintro e w10 ⟨rfl,hb10⟩))
 have b10:Below w8.heap.size w8 w10:=by(with_reducible repeat first|assumption|apply bl0|apply blA|apply blD|apply blN|refine blF ?_ ‹_›|(apply blS;(simp<;>omega)))
 have Y10:=Y8.later b10
 have R10:=R8.later b10
 have t10:=t8.below b10
 have t10':=t8'.below b10
 have D10:Below w.heap.size w w10:=Qa D8 b10
 clear hb9 hb10 b10 G9 G9' s8 s8' P8 X8 Y8 R8 t8 t8' D8
 go_wp2
 go_region_held3 (fun w'=>(w'.cell? ⟨w.heap.size+1,0,none⟩=some (.int .i64 r.lv)∧w'.cell? ⟨w.heap.size+1,1,none⟩=some (.int .i64 r.pl)∧w'.cell? ⟨w.heap.size+1,2,none⟩=some (.int .i64 r.sc)∧w'.cell? ⟨w.heap.size+1,3,none⟩=some (.slice A2 r.ins.length c2)∧w'.cell? ⟨w.heap.size+1,4,none⟩=some (.slice A3 r.hs.length c3)∧w'.cell? ⟨w.heap.size+1,5,none⟩=some (.int .i64 r.tag))∧(w'.cell? ⟨w7.heap.size,0,none⟩=some (.int .i64 r.lv)∧w'.cell? ⟨w7.heap.size,1,none⟩=some (.int .i64 r.pl)∧w'.cell? ⟨w7.heap.size,2,none⟩=some (.int .i64 r.sc)∧w'.cell? ⟨w7.heap.size,3,none⟩=some (.slice A7 r.ins.length c7)∧w'.cell? ⟨w7.heap.size,4,none⟩=some (.slice A7' r.hs.length c7')∧w'.cell? ⟨w7.heap.size,5,none⟩=some (.int .i64 r.tag)))
  (first|(refine⟨Zt R10 ?_,Zt Y10 ?_⟩<;>((with_reducible repeat first|assumption|apply bl0|apply blA|apply blD|apply blN|refine blF ?_ ‹_›|(apply blS;(simp<;>omega)));done)))
  (first
  |(go_at_call 25;refine(Qaf A2 A3 c2 c3 r _ (hs.below (Qa D10 (by(with_reducible repeat first|assumption|apply bl0|apply blA|apply blD|apply blN|refine blF ?_ ‹_›|(apply blS;(simp<;>omega)))))) (hs'.below (Qa D10 (by(with_reducible repeat first|assumption|apply bl0|apply blA|apply blD|apply blN|refine blF ?_ ‹_›|(apply blS;(simp<;>omega)))))) (by omega) (by omega)).mono ?_;rintro e w11 ⟨A11,c11,A11',c11',rfl,G11,G11',hb11⟩)
  |(go_at_call 27;refine(Qb0 A7 A7' A11 A11' c7 c7' c11 c11' r _ (t10.below (by(with_reducible repeat first|assumption|apply bl0|apply blA|apply blD|apply blN|refine blF ?_ ‹_›|(apply blS;(simp<;>omega))))) (t10'.below (by(with_reducible repeat first|assumption|apply bl0|apply blA|apply blD|apply blN|refine blF ?_ ‹_›|(apply blS;(simp<;>omega))))) ((G11.sl' Qh).below (by(with_reducible repeat first|assumption|apply bl0|apply blA|apply blD|apply blN|refine blF ?_ ‹_›|(apply blS;(simp<;>omega))))) ((G11'.sl' Qi).below (by(with_reducible repeat first|assumption|apply bl0|apply blA|apply blD|apply blN|refine blF ?_ ‹_›|(apply blS;(simp<;>omega))))) (by omega) (by omega)).mono ?_;rintro e w12 ⟨rfl,hb12⟩))
 have b12:Below w10.heap.size w10 w12:=by(with_reducible repeat first|assumption|apply bl0|apply blA|apply blD|apply blN|refine blF ?_ ‹_›|(apply blS;(simp<;>omega)))
 have D12:Below w.heap.size w w12:=Qa D10 b12
 go_wp2
 go_ret
 exact⟨rfl,D12⟩
end Go.Proofs.YtpmjcjoeckajgaaGreatDoor
