/- The law FnExactDivergeReport: its walk. Printed by gen/lawdrx.py. (Round C) -/
import Derived.Test.YtgaimkihacljdaaGreatDvgR
import Derived.Test.YtgaimkihacljdaaGreatZBase
import Derived.Deep.RegionHeld3
import Derived.Deep.DeepMust
namespace Go.Proofs.YtgaimkihacljdaaGreat
open Go.ChangeShapes Go.WideShapes Go.ChangeAt Go.RowKit
set_option maxRecDepth 100000 in
theorem QDc(a b d:Int)(w:World):Calls Sq.prog 11 #[.agg #[.int .i64 a,.int .i64 b,.int .i64 d],.agg #[.int .i64 a,.int .i64 b,.int .i64 d]] w fun e w'=>e= .returned (.bool true)∧Below w.heap.size w w':=by
 go_enter Sq.func11, Tryz.ntmps11
 go_wp2
 go_ret
 exact⟨rfl,by(with_reducible repeat first|assumption|exact bl0 _ _|refine blA ?_ _|(refine blS ?_ ?_ _;(simp<;>omega))|refine blD ?_|refine blN ?_ _|refine blF ?_ ‹_›)⟩
set_option maxRecDepth 100000 in
set_option maxHeartbeats 8000000 in
theorem QDd(l:Lev)(ins:List Inp)(cl:List Int)(A A' A2 A3:Option Addr)(n2 n3 c c' c2 c3:Nat)(w:World)(h:Sl w 4 Qc A l.walls.length l.walls)(hg:Sl w 4 Qc A' l.gates.length l.gates)(hs:Sl w 3 Qd A2 n2 ins)(hcl:Sl w 1 Qe A3 n3 cl)(hn1:(l.walls.length:Nat)≤9223372036854775807)(hn2:(l.gates.length:Nat)≤9223372036854775807)(hn3:(n2:Nat)≤9223372036854775807)(hn4:(n3:Nat)≤9223372036854775807):
 Calls Sq.prog 3 #[.agg #[.int .i64 l.id,.int .i64 l.ticks,.int .i64 l.start.x,.int .i64 l.start.y,.slice A l.walls.length c,.slice A' l.gates.length c',.int .i64 l.fin.lo.x,.int .i64 l.fin.lo.y,.int .i64 l.fin.hi.x,.int .i64 l.fin.hi.y,.int .i64 l.bans],.slice A2 n2 c2,.slice A3 n3 c3] w fun e w'=>e= .returned (.bool (true))∧Below w.heap.size w w':=by
 obtain rfl:=hs.1
 obtain rfl:=hcl.1
 by_cases g0:1048576<(cl.length:Int)
 ·go_enter Sq.func3, Tryz.ntmps3
  go_wp2
  go_ret
  exact⟨rfl,by(with_reducible repeat first|assumption|exact bl0 _ _|refine blA ?_ _|(refine blS ?_ ?_ _;(simp<;>omega))|refine blD ?_|refine blN ?_ _|refine blF ?_ ‹_›)⟩
 obtain⟨z0,z1⟩:=QcF (n:=l.walls.length) (n':=l.gates.length)
 obtain⟨kz,hkz⟩: ∃kz,JC l.walls.length l.gates.length 1048576=kz:=⟨_,rfl⟩
 have HKZ:=Lib.hid hkz
 have hm: ¬kz<0→l.walls.length≤1048576∧l.gates.length≤1048576:=fun h=>QcG (by rw[hkz];exact h)
 rw[hkz] at z0 z1
 clear hkz
 by_cases hz:kz<0
 ·go_enter Sq.func3, Tryz.ntmps3
  go_wp2_with (go_at_call 4;refine(XH _ _ _ _ _ _ _ _ _ _ _ _ _ _ _ _ _ (by omega) (by omega) hn1 hn2).mono ?_;rw[HKZ.out];rintro e w1 ⟨rfl,hb1⟩)
  go_ret
  exact⟨rfl,by(with_reducible repeat first|assumption|exact bl0 _ _|refine blA ?_ _|(refine blS ?_ ?_ _;(simp<;>omega))|refine blD ?_|refine blN ?_ _|refine blF ?_ ‹_›)⟩
 obtain⟨m1,m2⟩:=hm hz
 obtain⟨kq,hkq⟩: ∃kq,szL ins.length kz=kq:=⟨_,rfl⟩
 have HKQ:=Lib.hid hkq
 have hm3: ¬kq<0→ins.length≤1048576:=fun h=>Qd1 z1 (by rw[hkq];exact h)
 clear hkq hm
 by_cases hz2:kq<0
 ·go_enter Sq.func3, Tryz.ntmps3
  go_wp2_with fail
  refine(XH _ _ _ _ _ _ _ _ _ _ _ _ _ _ _ _ _ (by omega) (by omega) hn1 hn2).mono ?_
  rw[HKZ.out]
  rintro e w1 ⟨rfl,hb1⟩
  go_wp2_with fail
  refine(JK _ _ _ _ _ (by omega) (by omega) hn3).mono ?_
  rw[HKQ.out]
  rintro e w2 ⟨rfl,rfl⟩
  go_wp2
  go_ret
  exact⟨rfl,by(with_reducible repeat first|assumption|exact bl0 _ _|refine blA ?_ _|(refine blS ?_ ?_ _;(simp<;>omega))|refine blD ?_|refine blN ?_ _|refine blF ?_ ‹_›)⟩
 have m3:=hm3 hz2
 clear hm3
 obtain⟨rk,hrk⟩: ∃rk,repK l ins cl=rk:=⟨_,rfl⟩
 obtain⟨rf,hrf⟩: ∃rf,repF l ins cl=rf:=⟨_,rfl⟩
 obtain⟨rt,hrt⟩: ∃rt,repT l ins cl=rt:=⟨_,rfl⟩
 obtain⟨ro,hro⟩: ∃ro,Zn l ins cl=ro:=⟨_,rfl⟩
 have HR:=Lib.hid (And.intro hrk (And.intro hrf (And.intro hrt hro)))
 clear hrk hrf hrt hro
 go_enter Sq.func3, Tryz.ntmps3
 go_wp2_with fail
 refine(XH _ _ _ _ _ _ _ _ _ _ _ _ _ _ _ _ _ (by omega) (by omega) hn1 hn2).mono ?_
 rw[HKZ.out]
 rintro e w1 ⟨rfl,hb1⟩
 have P1:Bk w1 w.heap.size 28 #[.int .i64 l.id,.int .i64 l.ticks,.int .i64 l.start.x,.int .i64 l.start.y,.slice A l.walls.length c,.slice A' l.gates.length c',.int .i64 l.fin.lo.x,.int .i64 l.fin.lo.y,.int .i64 l.fin.hi.x,.int .i64 l.fin.hi.y,.int .i64 l.bans]:=Bk.later (by(repeat first|(with_reducible first|assumption|exact kN _ _ _ (by first|assumption|simp<;>omega)|refine kA ?_ _|refine kD ?_|refine kW ?_ _|apply Bk.set'|refine kF ?_ (by simp<;>omega) _)|exact⟨by with_reducible rfl⟩|exact⟨by simp⟩)) hb1
 have d1:Below w.heap.size w w1:=by(with_reducible repeat first|assumption|exact bl0 _ _|refine blA ?_ _|(refine blS ?_ ?_ _;(simp<;>omega))|refine blD ?_|refine blN ?_ _|refine blF ?_ ‹_›)
 clear hb1
 obtain⟨⟨p0,p1,p2,p3,p4,p5,p6,p7,p8,p9,p10⟩,pf⟩:=P1.c11
 go_wp2_with fail
 refine(JK _ _ _ _ _ (by omega) (by omega) hn3).mono ?_
 rw[HKQ.out]
 rintro e w2 ⟨rfl,rfl⟩
 go_wp2_with fail
 refine(XI l A A' c c' _ (h.below (by(with_reducible repeat first|assumption|exact bl0 _ _|refine blA ?_ _|(refine blS ?_ ?_ _;(simp<;>omega))|refine blD ?_|refine blN ?_ _|refine blF ?_ ‹_›))) (hg.below (by(with_reducible repeat first|assumption|exact bl0 _ _|refine blA ?_ _|(refine blS ?_ ?_ _;(simp<;>omega))|refine blD ?_|refine blN ?_ _|refine blF ?_ ‹_›))) (by omega) (by omega)).mono ?_
 rintro e w3 ⟨L3,k3,L3',k3',rfl,G3,G3',hb3⟩
 have P3:Bk w3 w.heap.size 28 #[.int .i64 l.id,.int .i64 l.ticks,.int .i64 l.start.x,.int .i64 l.start.y,.slice A l.walls.length c,.slice A' l.gates.length c',.int .i64 l.fin.lo.x,.int .i64 l.fin.lo.y,.int .i64 l.fin.hi.x,.int .i64 l.fin.hi.y,.int .i64 l.bans]:=Bk.later (by(repeat first|(with_reducible first|assumption|exact kN _ _ _ (by first|assumption|simp<;>omega)|refine kA ?_ _|refine kD ?_|refine kW ?_ _|apply Bk.set'|refine kF ?_ (by simp<;>omega) _)|exact⟨by with_reducible rfl⟩|exact⟨by simp⟩)) hb3
 have d3:Below w.heap.size w w3:=by(with_reducible repeat first|assumption|exact bl0 _ _|refine blA ?_ _|(refine blS ?_ ?_ _;(simp<;>omega))|refine blD ?_|refine blN ?_ _|refine blF ?_ ‹_›)
 clear hb3 P1 d1 p0 p1 p2 p3 p4 p5 p6 p7 p8 p9 p10 pf
 go_wp2_with fail
 refine(Xo A2 ins.length c2 ins _ (hs.below (by(with_reducible repeat first|assumption|exact bl0 _ _|refine blA ?_ _|(refine blS ?_ ?_ _;(simp<;>omega))|refine blD ?_|refine blN ?_ _|refine blF ?_ ‹_›))) (by omega)).mono ?_
 rintro e w4 ⟨I4,k4,rfl,hc4,G4,hb4⟩
 have s4:Sl w4 4 Qc L3 l.walls.length l.walls:=(G3.sl' Qv).below (by(with_reducible repeat first|assumption|exact bl0 _ _|refine blA ?_ _|(refine blS ?_ ?_ _;(simp<;>omega))|refine blD ?_|refine blN ?_ _|refine blF ?_ ‹_›))
 have s4':Sl w4 4 Qc L3' l.gates.length l.gates:=(G3'.sl' Qv).below (by(with_reducible repeat first|assumption|exact bl0 _ _|refine blA ?_ _|(refine blS ?_ ?_ _;(simp<;>omega))|refine blD ?_|refine blN ?_ _|refine blF ?_ ‹_›))
 have P4:Bk w4 w.heap.size 28 #[.int .i64 l.id,.int .i64 l.ticks,.int .i64 l.start.x,.int .i64 l.start.y,.slice A l.walls.length c,.slice A' l.gates.length c',.int .i64 l.fin.lo.x,.int .i64 l.fin.lo.y,.int .i64 l.fin.hi.x,.int .i64 l.fin.hi.y,.int .i64 l.bans]:=Bk.later (by(repeat first|(with_reducible first|assumption|exact kN _ _ _ (by first|assumption|simp<;>omega)|refine kA ?_ _|refine kD ?_|refine kW ?_ _|apply Bk.set'|refine kF ?_ (by simp<;>omega) _)|exact⟨by with_reducible rfl⟩|exact⟨by simp⟩)) hb4
 have d4:Below w.heap.size w w4:=by(with_reducible repeat first|assumption|exact bl0 _ _|refine blA ?_ _|(refine blS ?_ ?_ _;(simp<;>omega))|refine blD ?_|refine blN ?_ _|refine blF ?_ ‹_›)
 clear hb4 P3 d3 G3 G3'
 go_wp2_with fail
 refine(Qwa A3 cl.length c3 cl _ (hcl.below (by(with_reducible repeat first|assumption|exact bl0 _ _|refine blA ?_ _|(refine blS ?_ ?_ _;(simp<;>omega))|refine blD ?_|refine blN ?_ _|refine blF ?_ ‹_›))) (by omega)).mono ?_
 rintro e w5 ⟨J5,k5,rfl,hc5,G5,hb5⟩
 have s5:=s4.below hb5
 have s5':=s4'.below hb5
 have t5:=(G4.sl' Qh).below hb5
 have u5:=G5.sl' Qi
 have P5:Bk w5 w.heap.size 28 #[.int .i64 l.id,.int .i64 l.ticks,.int .i64 l.start.x,.int .i64 l.start.y,.slice A l.walls.length c,.slice A' l.gates.length c',.int .i64 l.fin.lo.x,.int .i64 l.fin.lo.y,.int .i64 l.fin.hi.x,.int .i64 l.fin.hi.y,.int .i64 l.bans]:=Bk.later (by(repeat first|(with_reducible first|assumption|exact kN _ _ _ (by first|assumption|simp<;>omega)|refine kA ?_ _|refine kD ?_|refine kW ?_ _|apply Bk.set'|refine kF ?_ (by simp<;>omega) _)|exact⟨by with_reducible rfl⟩|exact⟨by simp⟩)) hb5
 have d5:Below w.heap.size w w5:=by(with_reducible repeat first|assumption|exact bl0 _ _|refine blA ?_ _|(refine blS ?_ ?_ _;(simp<;>omega))|refine blD ?_|refine blN ?_ _|refine blF ?_ ‹_›)
 clear hb5 P4 d4 G4 G5 s4 s4'
 go_wp2_with fail
 refine(QdZ l ins cl L3 L3' I4 J5 k3 k3' k4 k5 _ s5 s5' hn1 hn2 t5 (by omega) u5 (by omega)).mono ?_
 unfold Xd
 rw[HR.out.1,HR.out.2.1,HR.out.2.2.1,HR.out.2.2.2]
 rintro e w6 ⟨rfl,hb6⟩
 have P6:Bk w6 w.heap.size 28 #[.int .i64 l.id,.int .i64 l.ticks,.int .i64 l.start.x,.int .i64 l.start.y,.slice A l.walls.length c,.slice A' l.gates.length c',.int .i64 l.fin.lo.x,.int .i64 l.fin.lo.y,.int .i64 l.fin.hi.x,.int .i64 l.fin.hi.y,.int .i64 l.bans]:=Bk.later (by(repeat first|(with_reducible first|assumption|exact kN _ _ _ (by first|assumption|simp<;>omega)|refine kA ?_ _|refine kD ?_|refine kW ?_ _|apply Bk.set'|refine kF ?_ (by simp<;>omega) _)|exact⟨by with_reducible rfl⟩|exact⟨by simp⟩)) hb6
 have d6:Below w.heap.size w w6:=by(with_reducible repeat first|assumption|exact bl0 _ _|refine blA ?_ _|(refine blS ?_ ?_ _;(simp<;>omega))|refine blD ?_|refine blN ?_ _|refine blF ?_ ‹_›)
 clear hb6 P5 d5 s5 s5' t5 u5
 obtain⟨⟨p0,p1,p2,p3,p4,p5,p6,p7,p8,p9,p10⟩,pf⟩:=P6.c11
 have y6:=P6.lt
 go_wp2_with fail
 refine(XI l A A' c c' _ (h.below (by(with_reducible repeat first|assumption|exact bl0 _ _|refine blA ?_ _|(refine blS ?_ ?_ _;(simp<;>omega))|refine blD ?_|refine blN ?_ _|refine blF ?_ ‹_›))) (hg.below (by(with_reducible repeat first|assumption|exact bl0 _ _|refine blA ?_ _|(refine blS ?_ ?_ _;(simp<;>omega))|refine blD ?_|refine blN ?_ _|refine blF ?_ ‹_›))) (by omega) (by omega)).mono ?_
 rintro e w7 ⟨A7,c7,A7',c7',rfl,G7,G7',hb7⟩
 have P7:Bk w7 w.heap.size 28 #[.int .i64 l.id,.int .i64 l.ticks,.int .i64 l.start.x,.int .i64 l.start.y,.slice A l.walls.length c,.slice A' l.gates.length c',.int .i64 l.fin.lo.x,.int .i64 l.fin.lo.y,.int .i64 l.fin.hi.x,.int .i64 l.fin.hi.y,.int .i64 l.bans]:=Bk.later (by(repeat first|(with_reducible first|assumption|exact kN _ _ _ (by first|assumption|simp<;>omega)|refine kA ?_ _|refine kD ?_|refine kW ?_ _|apply Bk.set'|refine kF ?_ (by simp<;>omega) _)|exact⟨by with_reducible rfl⟩|exact⟨by simp⟩)) hb7
 have d7:Below w.heap.size w w7:=by(with_reducible repeat first|assumption|exact bl0 _ _|refine blA ?_ _|(refine blS ?_ ?_ _;(simp<;>omega))|refine blD ?_|refine blN ?_ _|refine blF ?_ ‹_›)
 have Z7:Bk w7 w6.heap.size 34 #[.int .i64 rk,.int .i64 rf,.int .i64 rt]:=Bk.later (by(repeat first|(with_reducible first|assumption|exact kN _ _ _ (by first|assumption|simp<;>omega)|refine kA ?_ _|refine kD ?_|refine kW ?_ _|apply Bk.set'|refine kF ?_ (by simp<;>omega) _)|exact⟨by with_reducible rfl⟩|exact⟨by simp⟩)) hb7
 have e7:=ZR G7
 have e7':=ZR G7'
 have s7:=G7.sl' Qv
 have s7':=G7'.sl' Qv
 clear hb7 P6 d6 G7 G7' p0 p1 p2 p3 p4 p5 p6 p7 p8 p9 p10 pf
 go_wp2_with fail
 refine(Xo A2 ins.length c2 ins _ (hs.below (by(with_reducible repeat first|assumption|exact bl0 _ _|refine blA ?_ _|(refine blS ?_ ?_ _;(simp<;>omega))|refine blD ?_|refine blN ?_ _|refine blF ?_ ‹_›))) (by omega)).mono ?_
 rintro e w8 ⟨I8,k8,rfl,hc8,G8,hb8⟩
 have X8:Bk w8 w7.heap.size 42 #[.int .i64 l.id,.int .i64 l.ticks,.int .i64 l.start.x,.int .i64 l.start.y,.slice A7 l.walls.length c7,.slice A7' l.gates.length c7',.int .i64 l.fin.lo.x,.int .i64 l.fin.lo.y,.int .i64 l.fin.hi.x,.int .i64 l.fin.hi.y,.int .i64 l.bans]:=Bk.later (by(repeat first|(with_reducible first|assumption|exact kN _ _ _ (by first|assumption|simp<;>omega)|refine kA ?_ _|refine kD ?_|refine kW ?_ _|apply Bk.set'|refine kF ?_ (by simp<;>omega) _)|exact⟨by with_reducible rfl⟩|exact⟨by simp⟩)) hb8
 have P8:Bk w8 w.heap.size 28 #[.int .i64 l.id,.int .i64 l.ticks,.int .i64 l.start.x,.int .i64 l.start.y,.slice A l.walls.length c,.slice A' l.gates.length c',.int .i64 l.fin.lo.x,.int .i64 l.fin.lo.y,.int .i64 l.fin.hi.x,.int .i64 l.fin.hi.y,.int .i64 l.bans]:=Bk.later (by(repeat first|(with_reducible first|assumption|exact kN _ _ _ (by first|assumption|simp<;>omega)|refine kA ?_ _|refine kD ?_|refine kW ?_ _|apply Bk.set'|refine kF ?_ (by simp<;>omega) _)|exact⟨by with_reducible rfl⟩|exact⟨by simp⟩)) hb8
 have d8:Below w.heap.size w w8:=by(with_reducible repeat first|assumption|exact bl0 _ _|refine blA ?_ _|(refine blS ?_ ?_ _;(simp<;>omega))|refine blD ?_|refine blN ?_ _|refine blF ?_ ‹_›)
 have Z8:Bk w8 w6.heap.size 34 #[.int .i64 rk,.int .i64 rf,.int .i64 rt]:=Bk.later (by(repeat first|(with_reducible first|assumption|exact kN _ _ _ (by first|assumption|simp<;>omega)|refine kA ?_ _|refine kD ?_|refine kW ?_ _|apply Bk.set'|refine kF ?_ (by simp<;>omega) _)|exact⟨by with_reducible rfl⟩|exact⟨by simp⟩)) hb8
 have s8:=s7.below (Qa (Qf (Below.refl _ _) _) hb8)
 have s8':=s7'.below (Qa (Qf (Below.refl _ _) _) hb8)
 have t8:=G8.sl' Qh
 clear hb8 Z7 P7 d7 s7 s7' G8
 go_wp2_with fail
 refine(Qwa A3 cl.length c3 cl _ (hcl.below (by(with_reducible repeat first|assumption|exact bl0 _ _|refine blA ?_ _|(refine blS ?_ ?_ _;(simp<;>omega))|refine blD ?_|refine blN ?_ _|refine blF ?_ ‹_›))) (by omega)).mono ?_
 rintro e w9 ⟨J9,k9,rfl,hc9,G9,hb9⟩
 have X9:=X8.later hb9
 have Z9:=Z8.later hb9
 have P9:=P8.later hb9
 have d9:=Qa d8 hb9
 have s9:=s8.below hb9
 have s9':=s8'.below hb9
 have t9:=t8.below hb9
 have u9:=G9.sl' Qi
 clear hb9 Z8 X8 P8 d8 s8 s8' t8 G9
 obtain⟨⟨x0,x1,x2,x3,x4,x5,x6,x7,x8,x9,x10⟩,xf⟩:=X9.c11
 go_wp2_with fail
 refine(Qbx l ins cl A7 A7' I8 J9 c7 c7' k8 k9 _ (s9.below (by(with_reducible repeat first|assumption|exact bl0 _ _|refine blA ?_ _|(refine blS ?_ ?_ _;(simp<;>omega))|refine blD ?_|refine blN ?_ _|refine blF ?_ ‹_›))) (s9'.below (by(with_reducible repeat first|assumption|exact bl0 _ _|refine blA ?_ _|(refine blS ?_ ?_ _;(simp<;>omega))|refine blD ?_|refine blN ?_ _|refine blF ?_ ‹_›))) e7 e7' hn1 hn2 (t9.below (by(with_reducible repeat first|assumption|exact bl0 _ _|refine blA ?_ _|(refine blS ?_ ?_ _;(simp<;>omega))|refine blD ?_|refine blN ?_ _|refine blF ?_ ‹_›))) hn3 (u9.below (by(with_reducible repeat first|assumption|exact bl0 _ _|refine blA ?_ _|(refine blS ?_ ?_ _;(simp<;>omega))|refine blD ?_|refine blN ?_ _|refine blF ?_ ‹_›))) (by omega)).mono ?_
 unfold Xd
 rw[HR.out.1,HR.out.2.1,HR.out.2.2.1,HR.out.2.2.2]
 rintro e w10 ⟨rfl,hb10⟩
 have X10:=X9.later hb10
 have Z10:=Z9.later hb10
 have P10:=P9.later hb10
 have d10:=Qa d9 hb10
 have s10:=s9.below hb10
 have s10':=s9'.below hb10
 have t10:=t9.below hb10
 have u10:=u9.below hb10
 clear hb10 Z9 X9 P9 d9 s9 s9' t9 u9 x0 x1 x2 x3 x4 x5 x6 x7 x8 x9 x10 xf
 obtain⟨⟨q0,q1,q2⟩,qf⟩:=Z10.c3
 have yq:=Z10.lt
 go_wp2_with fail
 refine(QDc rk rf rt _).mono ?_
 rintro e w11 ⟨rfl,hb11⟩
 have b11:Below w10.heap.size w10 w11:=by(with_reducible repeat first|assumption|exact bl0 _ _|refine blA ?_ _|(refine blS ?_ ?_ _;(simp<;>omega))|refine blD ?_|refine blN ?_ _|refine blF ?_ ‹_›)
 have X11:Bk w11 w7.heap.size 42 #[.int .i64 l.id,.int .i64 l.ticks,.int .i64 l.start.x,.int .i64 l.start.y,.slice A7 l.walls.length c7,.slice A7' l.gates.length c7',.int .i64 l.fin.lo.x,.int .i64 l.fin.lo.y,.int .i64 l.fin.hi.x,.int .i64 l.fin.hi.y,.int .i64 l.bans]:=X10.later b11
 have P11:Bk w11 w.heap.size 28 #[.int .i64 l.id,.int .i64 l.ticks,.int .i64 l.start.x,.int .i64 l.start.y,.slice A l.walls.length c,.slice A' l.gates.length c',.int .i64 l.fin.lo.x,.int .i64 l.fin.lo.y,.int .i64 l.fin.hi.x,.int .i64 l.fin.hi.y,.int .i64 l.bans]:=P10.later b11
 have d11:Below w.heap.size w w11:=Qa d10 b11
 have s11:Sl w11 4 Qc A7 l.walls.length l.walls:=s10.below b11
 have s11':Sl w11 4 Qc A7' l.gates.length l.gates:=s10'.below b11
 have t11:Sl w11 3 Qd I8 ins.length ins:=t10.below b11
 have u11:Sl w11 1 Qe J9 cl.length cl:=u10.below b11
 clear hb11 b11 Z10 q0 q1 q2 qf yq X10 P10 d10 s10 s10' t10 u10
 go_wp2
 go_region_held3 (fun w'=>(w'.cell? ⟨w.heap.size,0,none⟩=some (.int .i64 l.id)∧w'.cell? ⟨w.heap.size,1,none⟩=some (.int .i64 l.ticks)∧w'.cell? ⟨w.heap.size,2,none⟩=some (.int .i64 l.start.x)∧w'.cell? ⟨w.heap.size,3,none⟩=some (.int .i64 l.start.y)∧w'.cell? ⟨w.heap.size,4,none⟩=some (.slice A l.walls.length c)∧w'.cell? ⟨w.heap.size,5,none⟩=some (.slice A' l.gates.length c')∧w'.cell? ⟨w.heap.size,6,none⟩=some (.int .i64 l.fin.lo.x)∧w'.cell? ⟨w.heap.size,7,none⟩=some (.int .i64 l.fin.lo.y)∧w'.cell? ⟨w.heap.size,8,none⟩=some (.int .i64 l.fin.hi.x)∧w'.cell? ⟨w.heap.size,9,none⟩=some (.int .i64 l.fin.hi.y)∧w'.cell? ⟨w.heap.size,10,none⟩=some (.int .i64 l.bans))∧(w'.cell? ⟨w7.heap.size,0,none⟩=some (.int .i64 l.id)∧w'.cell? ⟨w7.heap.size,1,none⟩=some (.int .i64 l.ticks)∧w'.cell? ⟨w7.heap.size,2,none⟩=some (.int .i64 l.start.x)∧w'.cell? ⟨w7.heap.size,3,none⟩=some (.int .i64 l.start.y)∧w'.cell? ⟨w7.heap.size,4,none⟩=some (.slice A7 l.walls.length c7)∧w'.cell? ⟨w7.heap.size,5,none⟩=some (.slice A7' l.gates.length c7')∧w'.cell? ⟨w7.heap.size,6,none⟩=some (.int .i64 l.fin.lo.x)∧w'.cell? ⟨w7.heap.size,7,none⟩=some (.int .i64 l.fin.lo.y)∧w'.cell? ⟨w7.heap.size,8,none⟩=some (.int .i64 l.fin.hi.x)∧w'.cell? ⟨w7.heap.size,9,none⟩=some (.int .i64 l.fin.hi.y)∧w'.cell? ⟨w7.heap.size,10,none⟩=some (.int .i64 l.bans)))
  (first|(refine Jh P11 X11 ?_;((with_reducible repeat first|assumption|exact bl0 _ _|refine blA ?_ _|(refine blS ?_ ?_ _;(simp<;>omega))|refine blD ?_|refine blN ?_ _|refine blF ?_ ‹_›);done)))
  (first
  |(go_at_call 7;refine(XI l A A' c c' _ (h.below (Qa d11 (by(with_reducible repeat first|assumption|exact bl0 _ _|refine blA ?_ _|(refine blS ?_ ?_ _;(simp<;>omega))|refine blD ?_|refine blN ?_ _|refine blF ?_ ‹_›)))) (hg.below (Qa d11 (by(with_reducible repeat first|assumption|exact bl0 _ _|refine blA ?_ _|(refine blS ?_ ?_ _;(simp<;>omega))|refine blD ?_|refine blN ?_ _|refine blF ?_ ‹_›)))) (by omega) (by omega)).mono ?_;rintro e w12 ⟨A12,c12,A12',c12',rfl,G12,G12',hb12⟩)
  |(go_at_call 12;refine(QbZ l A7 A7' A12 A12' c7 c7' c12 c12' _ (s11.below (by(with_reducible repeat first|assumption|exact bl0 _ _|refine blA ?_ _|(refine blS ?_ ?_ _;(simp<;>omega))|refine blD ?_|refine blN ?_ _|refine blF ?_ ‹_›))) (s11'.below (by(with_reducible repeat first|assumption|exact bl0 _ _|refine blA ?_ _|(refine blS ?_ ?_ _;(simp<;>omega))|refine blD ?_|refine blN ?_ _|refine blF ?_ ‹_›))) ((G12.sl' Qv).below (by(with_reducible repeat first|assumption|exact bl0 _ _|refine blA ?_ _|(refine blS ?_ ?_ _;(simp<;>omega))|refine blD ?_|refine blN ?_ _|refine blF ?_ ‹_›))) ((G12'.sl' Qv).below (by(with_reducible repeat first|assumption|exact bl0 _ _|refine blA ?_ _|(refine blS ?_ ?_ _;(simp<;>omega))|refine blD ?_|refine blN ?_ _|refine blF ?_ ‹_›))) (by omega) (by omega)).mono ?_;rintro e w13 ⟨rfl,hb13⟩))
 have b13:Below w11.heap.size w11 w13:=by(with_reducible repeat first|assumption|exact bl0 _ _|refine blA ?_ _|(refine blS ?_ ?_ _;(simp<;>omega))|refine blD ?_|refine blN ?_ _|refine blF ?_ ‹_›)
 have t13:=t11.below b13
 have u13:=u11.below b13
 have d13:Below w.heap.size w w13:=Qa d11 b13
 clear hb12 hb13 b13 G12 G12' s11 s11' P11 X11 t11 u11 d11
 go_wp2_with fail
 refine(Xo A2 ins.length c2 ins _ (hs.below (by(with_reducible repeat first|assumption|exact bl0 _ _|refine blA ?_ _|(refine blS ?_ ?_ _;(simp<;>omega))|refine blD ?_|refine blN ?_ _|refine blF ?_ ‹_›))) (by omega)).mono ?_
 rintro e w14 ⟨I14,k14,rfl,_,G14,hb14⟩
 have t14:Sl w14 3 Qd I8 ins.length ins:=t13.below (by(with_reducible repeat first|assumption|exact bl0 _ _|refine blA ?_ _|(refine blS ?_ ?_ _;(simp<;>omega))|refine blD ?_|refine blN ?_ _|refine blF ?_ ‹_›))
 have u14:Sl w14 1 Qe J9 cl.length cl:=u13.below (by(with_reducible repeat first|assumption|exact bl0 _ _|refine blA ?_ _|(refine blS ?_ ?_ _;(simp<;>omega))|refine blD ?_|refine blN ?_ _|refine blF ?_ ‹_›))
 have d14:Below w.heap.size w w14:=by(with_reducible repeat first|assumption|exact bl0 _ _|refine blA ?_ _|(refine blS ?_ ?_ _;(simp<;>omega))|refine blD ?_|refine blN ?_ _|refine blF ?_ ‹_›)
 clear hb14 t13 u13 d13
 go_wp2_with fail
 refine(Qbo I8 I14 ins.length ins.length k8 k14 ins ins _ (t14.below (by(with_reducible repeat first|assumption|exact bl0 _ _|refine blA ?_ _|(refine blS ?_ ?_ _;(simp<;>omega))|refine blD ?_|refine blN ?_ _|refine blF ?_ ‹_›))) ((G14.sl' Qh).below (by(with_reducible repeat first|assumption|exact bl0 _ _|refine blA ?_ _|(refine blS ?_ ?_ _;(simp<;>omega))|refine blD ?_|refine blN ?_ _|refine blF ?_ ‹_›))) (by omega) (by omega)).mono ?_
 rw[QbY XN]
 rintro e w15 ⟨rfl,hb15⟩
 have u15:Sl w15 1 Qe J9 cl.length cl:=u14.below (by(with_reducible repeat first|assumption|exact bl0 _ _|refine blA ?_ _|(refine blS ?_ ?_ _;(simp<;>omega))|refine blD ?_|refine blN ?_ _|refine blF ?_ ‹_›))
 have d15:Below w.heap.size w w15:=by(with_reducible repeat first|assumption|exact bl0 _ _|refine blA ?_ _|(refine blS ?_ ?_ _;(simp<;>omega))|refine blD ?_|refine blN ?_ _|refine blF ?_ ‹_›)
 clear hb15 t14 u14 d14 G14
 go_wp2_with fail
 refine(Qwa A3 cl.length c3 cl _ (hcl.below (by(with_reducible repeat first|assumption|exact bl0 _ _|refine blA ?_ _|(refine blS ?_ ?_ _;(simp<;>omega))|refine blD ?_|refine blN ?_ _|refine blF ?_ ‹_›))) (by omega)).mono ?_
 rintro e w16 ⟨J16,k16,rfl,_,G16,hb16⟩
 have u16:Sl w16 1 Qe J9 cl.length cl:=u15.below (by(with_reducible repeat first|assumption|exact bl0 _ _|refine blA ?_ _|(refine blS ?_ ?_ _;(simp<;>omega))|refine blD ?_|refine blN ?_ _|refine blF ?_ ‹_›))
 have d16:Below w.heap.size w w16:=by(with_reducible repeat first|assumption|exact bl0 _ _|refine blA ?_ _|(refine blS ?_ ?_ _;(simp<;>omega))|refine blD ?_|refine blN ?_ _|refine blF ?_ ‹_›)
 clear hb16 u15 d15
 go_wp2_with fail
 refine(QbX _ _ _ _ _ _ _ _ (u16.below (by(with_reducible repeat first|assumption|exact bl0 _ _|refine blA ?_ _|(refine blS ?_ ?_ _;(simp<;>omega))|refine blD ?_|refine blN ?_ _|refine blF ?_ ‹_›))) ((G16.sl' Qi).below (by(with_reducible repeat first|assumption|exact bl0 _ _|refine blA ?_ _|(refine blS ?_ ?_ _;(simp<;>omega))|refine blD ?_|refine blN ?_ _|refine blF ?_ ‹_›))) (by omega) (by omega)).mono ?_
 rintro e w17 ⟨rfl,hb17⟩
 have d17:Below w.heap.size w w17:=by(with_reducible repeat first|assumption|exact bl0 _ _|refine blA ?_ _|(refine blS ?_ ?_ _;(simp<;>omega))|refine blD ?_|refine blN ?_ _|refine blF ?_ ‹_›)
 clear hb17 u16 d16 G16
 go_wp2
 go_ret
 exact⟨rfl,d17⟩
end Go.Proofs.YtgaimkihacljdaaGreat
