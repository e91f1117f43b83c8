/- Reports: program and reference. (Round C) -/
import Derived.Test.YtgaimkihacljdaaGreatZDvgD
import Derived.Test.YtgaimkihacljdaaGreatZImpB
import Derived.Test.YtgaimkihacljdaaGreatConvV
import Derived.Test.YtgaimkihacljdaaGreatZRun
namespace Go.Proofs.YtgaimkihacljdaaGreat
open Go.ChangeShapes Go.WideShapes Go.ChangeAt Go.RowKit
def Zn(l:Lev)(ins:List Inp)(cl:List Int):Bool:=QA l ins && decide (0≤Zg (Qq l ins) cl)
def repK(l:Lev)(ins:List Inp)(cl:List Int):Int:=if Zn l ins cl then Zg (Qq l ins) cl else 0
def repF(l:Lev)(ins:List Inp)(cl:List Int):Int:=if Zn l ins cl then Zg (Qq l ins) cl*5 else 0
def repT(l:Lev)(ins:List Inp)(cl:List Int):Int:=if Zn l ins cl then min ((Zg (Qq l ins) cl+1)*5) ins.length else 0
def Xd(l:Lev)(ins:List Inp)(cl:List Int)(w:World)(e:Ending)(w':World):Prop:=
 e= .returned (.tuple #[.agg #[.int .i64 (repK l ins cl),.int .i64 (repF l ins cl),.int .i64 (repT l ins cl)],.bool (Zn l ins cl)])∧Below w.heap.size w w'
theorem Qc0(l:Lev)(ins:List Inp):(Qq l ins).length≤61:=Qew l ins
theorem Qie(a b:List Int):Zg a b= -1∨0≤Zg a b∧Zg a b<(max a.length b.length:Nat):=by
 rcases QfX a b with⟨h,_⟩|⟨k,h,_,_,h3,_⟩<;>omega
set_option maxRecDepth 100000 in
set_option maxHeartbeats 2000000 in
theorem Qbx(l:Lev)(ins:List Inp)(cl:List Int)(A A' A2 A3:Option Addr)(c c' c2 c3:Nat)(w:World)(h:Sl w 4 Qc A l.walls.length l.walls)(hg:Sl w 4 Qc A' l.gates.length l.gates)(e:A=none→c=0)(e':A'=none→c'=0)(hn1:(l.walls.length:Nat)≤9223372036854775807)(hn2:(l.gates.length:Nat)≤9223372036854775807)(hs:Sl w 3 Qd A2 ins.length ins)(hn3:(ins.length:Nat)≤9223372036854775807)(hcl:Sl w 1 Qe A3 cl.length cl)(h64:cl.length≤1048576):
 Calls Sq.prog 10 #[.agg #[.int .i64 l.id,.int .i64 l.ticks,.int .i64 l.start.x,.int .i64 l.start.y,.slice A l.walls.length c,.slice A' l.gates.length c',.int .i64 l.fin.lo.x,.int .i64 l.fin.lo.y,.int .i64 l.fin.hi.x,.int .i64 l.fin.hi.y,.int .i64 l.bans],.slice A2 ins.length c2,.slice A3 cl.length c3] w (Xd l ins cl w):=by
 cases hL:QE l
 ·have hR:Zn l ins cl=false:=by unfold Zn QA;rw[hL];rfl
  unfold Xd repK repF repT
  simp only[hR,Bool.false_eq_true,if_false]
  clear hR
  go_enter Sq.func10, Tryz.ntmps10
  go_wp2_with fail
  refine(Zi l A A' c c' _ (h.below (by(with_reducible repeat first|assumption|exact bl0 _ _|refine blA ?_ _|(refine blS ?_ ?_ _;(simp<;>omega))|refine blD ?_|refine blN ?_ _|refine blF ?_ ‹_›))) (hg.below (by(with_reducible repeat first|assumption|exact bl0 _ _|refine blA ?_ _|(refine blS ?_ ?_ _;(simp<;>omega))|refine blD ?_|refine blN ?_ _|refine blF ?_ ‹_›))) e e' hn1 hn2).mono ?_
  rw[hL]
  rintro e1 w1 ⟨rfl,hb1⟩
  obtain⟨hc1,hf1⟩:=Qy hb1;have hy1:w.heap.size<w1.heap.size:=(by have:=hb1.size;first|omega|(simp at this;omega));have hz1:w.heap.size+1<w1.heap.size:=(by have:=hb1.size;first|omega|(simp at this;omega))
  go_wp2
  refine bodyPost_ret (v:= .tuple #[.agg #[.int .i64 0,.int .i64 0,.int .i64 0],.bool false]) (by simp[results, Tryz.results10,go_sem, *]) rfl ⟨rfl,by(with_reducible repeat first|assumption|exact bl0 _ _|refine blA ?_ _|(refine blS ?_ ?_ _;(simp<;>omega))|refine blD ?_|refine blN ?_ _|refine blF ?_ ‹_›)⟩
 ·by_cases hleg:QC l ins<0
  ·have hr:QA l ins=true:=by unfold QA;rw[hL];simpa using hleg
   obtain⟨H,hH⟩: ∃H,Qq l ins=H:=⟨_,rfl⟩
   have hH61:H.length≤61:=by rw[←hH];exact Qc0 l ins
   obtain⟨d,hd⟩: ∃d,Zg H cl=d:=⟨_,rfl⟩
   have hdb:=Qie H cl
   rw[hd] at hdb
   have hd64:d<1048577:=by omega
   have hd1: -1≤d:=by omega
   clear hdb
   have hR:Zn l ins cl=decide (0≤d):=by unfold Zn;rw[hr,hH,hd];rfl
   have HHH:=Lib.hid hH
   have HD:=Lib.hid hd
   by_cases hneg:d<0
   ·have hR2:Zn l ins cl=false:=by rw[hR];exact decide_eq_false (by omega)
    unfold Xd repK repF repT
    simp only[hR2,Bool.false_eq_true,if_false]
    clear hR2 hH
    obtain⟨lx,hlx⟩: ∃lx,QC l ins=lx:=⟨_,rfl⟩
    have HLX:=Lib.hid hlx
    rw[hlx] at hleg
    clear hR hd hr hlx
    go_enter Sq.func10, Tryz.ntmps10
    go_wp2_with fail
    refine(Zi l A A' c c' _ (h.below (by(with_reducible repeat first|assumption|exact bl0 _ _|refine blA ?_ _|(refine blS ?_ ?_ _;(simp<;>omega))|refine blD ?_|refine blN ?_ _|refine blF ?_ ‹_›))) (hg.below (by(with_reducible repeat first|assumption|exact bl0 _ _|refine blA ?_ _|(refine blS ?_ ?_ _;(simp<;>omega))|refine blD ?_|refine blN ?_ _|refine blF ?_ ‹_›))) e e' hn1 hn2).mono ?_
    rw[hL]
    rintro e1 w1 ⟨rfl,hb1⟩
    have d1:Below w.heap.size w w1:=Qa (by(with_reducible repeat first|assumption|exact bl0 _ _|refine blA ?_ _|(refine blS ?_ ?_ _;(simp<;>omega))|refine blD ?_|refine blN ?_ _|refine blF ?_ ‹_›)) hb1
    have L1:Bk w1 w.heap.size 42 #[.int .i64 l.id,.int .i64 l.ticks,.int .i64 l.start.x,.int .i64 l.start.y,.slice A l.walls.length c,.slice A' l.gates.length c',.int .i64 l.fin.lo.x,.int .i64 l.fin.lo.y,.int .i64 l.fin.hi.x,.int .i64 l.fin.hi.y,.int .i64 l.bans]:=Bk.later (by(repeat first|(with_reducible first|assumption|exact kN _ _ _ (by first|assumption|simp<;>omega)|refine kA ?_ _|refine kD ?_|refine kW ?_ _|apply Bk.set'|refine kF ?_ (by simp<;>omega) _)|exact⟨by with_reducible rfl⟩|exact⟨by simp⟩)) hb1
    have R1:Bk w1 (w.heap.size+1) 34 #[.int .i64 0,.int .i64 0,.int .i64 0]:=Bk.later (by(repeat first|(with_reducible first|assumption|exact kN _ _ _ (by first|assumption|simp<;>omega)|refine kA ?_ _|refine kD ?_|refine kW ?_ _|apply Bk.set'|refine kF ?_ (by simp<;>omega) _)|exact⟨by with_reducible rfl⟩|exact⟨by simp⟩)) hb1
    have z1:=d1.size
    have zR1:=R1.lt
    clear hb1
    obtain⟨⟨l0,l1,l2,l3,l4,l5,l6,l7,l8,l9,l10⟩,lf⟩:=L1.c11
    obtain⟨⟨r0,r1,r2⟩,rf⟩:=R1.c3
    go_wp2_with fail
    refine(JQ l ins A A' A2 c c' c2 _ (h.below (by(with_reducible repeat first|assumption|exact bl0 _ _|refine blA ?_ _|(refine blS ?_ ?_ _;(simp<;>omega))|refine blD ?_|refine blN ?_ _|refine blF ?_ ‹_›))) (hg.below (by(with_reducible repeat first|assumption|exact bl0 _ _|refine blA ?_ _|(refine blS ?_ ?_ _;(simp<;>omega))|refine blD ?_|refine blN ?_ _|refine blF ?_ ‹_›))) e e' hn1 hn2 hL (hs.below (by(with_reducible repeat first|assumption|exact bl0 _ _|refine blA ?_ _|(refine blS ?_ ?_ _;(simp<;>omega))|refine blD ?_|refine blN ?_ _|refine blF ?_ ‹_›))) hn3).mono ?_
    rw[HLX.out]
    rintro e1 w2 ⟨rfl,hb2⟩
    have d2:Below w.heap.size w w2:=Qa (by(with_reducible repeat first|assumption|exact bl0 _ _|refine blA ?_ _|(refine blS ?_ ?_ _;(simp<;>omega))|refine blD ?_|refine blN ?_ _|refine blF ?_ ‹_›)) hb2
    have L2:Bk w2 w.heap.size 42 #[.int .i64 l.id,.int .i64 l.ticks,.int .i64 l.start.x,.int .i64 l.start.y,.slice A l.walls.length c,.slice A' l.gates.length c',.int .i64 l.fin.lo.x,.int .i64 l.fin.lo.y,.int .i64 l.fin.hi.x,.int .i64 l.fin.hi.y,.int .i64 l.bans]:=Bk.later (by(repeat first|(with_reducible first|assumption|exact kN _ _ _ (by first|assumption|simp<;>omega)|refine kA ?_ _|refine kD ?_|refine kW ?_ _|apply Bk.set'|refine kF ?_ (by simp<;>omega) _)|exact⟨by with_reducible rfl⟩|exact⟨by simp⟩)) hb2
    have R2:Bk w2 (w.heap.size+1) 34 #[.int .i64 0,.int .i64 0,.int .i64 0]:=Bk.later (by(repeat first|(with_reducible first|assumption|exact kN _ _ _ (by first|assumption|simp<;>omega)|refine kA ?_ _|refine kD ?_|refine kW ?_ _|apply Bk.set'|refine kF ?_ (by simp<;>omega) _)|exact⟨by with_reducible rfl⟩|exact⟨by simp⟩)) hb2
    have z2:=d2.size
    have zR2:=R2.lt
    clear hb2 L1 R1 d1 l0 l1 l2 l3 l4 l5 l6 l7 l8 l9 l10 lf r0 r1 r2 rf
    obtain⟨⟨l0,l1,l2,l3,l4,l5,l6,l7,l8,l9,l10⟩,lf⟩:=L2.c11
    obtain⟨⟨r0,r1,r2⟩,rf⟩:=R2.c3
    have hng: ¬0≤lx:=by omega
    go_wp2_with fail
    refine(XF l ins A A' A2 c c' c2 _ (h.below (by(with_reducible repeat first|assumption|exact bl0 _ _|refine blA ?_ _|(refine blS ?_ ?_ _;(simp<;>omega))|refine blD ?_|refine blN ?_ _|refine blF ?_ ‹_›))) (hg.below (by(with_reducible repeat first|assumption|exact bl0 _ _|refine blA ?_ _|(refine blS ?_ ?_ _;(simp<;>omega))|refine blD ?_|refine blN ?_ _|refine blF ?_ ‹_›))) e e' hn1 hn2 (hs.below (by(with_reducible repeat first|assumption|exact bl0 _ _|refine blA ?_ _|(refine blS ?_ ?_ _;(simp<;>omega))|refine blD ?_|refine blN ?_ _|refine blF ?_ ‹_›))) hn3).mono ?_
    rw[HHH.out]
    rintro e1 w3 ⟨A4,c4,rfl,hc4,hO3,hb3⟩
    have d3:Below w.heap.size w w3:=Qa (by(with_reducible repeat first|assumption|exact bl0 _ _|refine blA ?_ _|(refine blS ?_ ?_ _;(simp<;>omega))|refine blD ?_|refine blN ?_ _|refine blF ?_ ‹_›)) hb3
    have R3:Bk w3 (w.heap.size+1) 34 #[.int .i64 0,.int .i64 0,.int .i64 0]:=Bk.later (by(repeat first|(with_reducible first|assumption|exact kN _ _ _ (by first|assumption|simp<;>omega)|refine kA ?_ _|refine kD ?_|refine kW ?_ _|apply Bk.set'|refine kF ?_ (by simp<;>omega) _)|exact⟨by with_reducible rfl⟩|exact⟨by simp⟩)) hb3
    have z3:=d3.size
    have zR3:=R3.lt
    clear hb3 L2 R2 d2 l0 l1 l2 l3 l4 l5 l6 l7 l8 l9 l10 lf r0 r1 r2 rf
    go_wp2_with fail
    refine(Js A4 A3 H.length cl.length c4 c3 H cl _ (hO3.sl' Qi) (hcl.below (by(with_reducible repeat first|assumption|exact bl0 _ _|refine blA ?_ _|(refine blS ?_ ?_ _;(simp<;>omega))|refine blD ?_|refine blN ?_ _|refine blF ?_ ‹_›))) (by omega) h64).mono ?_
    rw[HD.out]
    rintro e1 w4 ⟨rfl,hb4⟩
    have d4:Below w.heap.size w w4:=Qa (by(with_reducible repeat first|assumption|exact bl0 _ _|refine blA ?_ _|(refine blS ?_ ?_ _;(simp<;>omega))|refine blD ?_|refine blN ?_ _|refine blF ?_ ‹_›)) hb4
    have R4':Bk w4 (w.heap.size+1) 34 #[.int .i64 0,.int .i64 0,.int .i64 0]:=Bk.later (by(repeat first|(with_reducible first|assumption|exact kN _ _ _ (by first|assumption|simp<;>omega)|refine kA ?_ _|refine kD ?_|refine kW ?_ _|apply Bk.set'|refine kF ?_ (by simp<;>omega) _)|exact⟨by with_reducible rfl⟩|exact⟨by simp⟩)) hb4
    have z4:=d4.size
    have zR4:=R4'.lt
    clear hb4 R3 d3 h hg hs hcl hO3 hleg hng
    obtain⟨⟨r0,r1,r2⟩,rf⟩:=R4'.c3
    go_wp2
    refine bodyPost_ret (v:= .tuple #[.agg #[.int .i64 0,.int .i64 0,.int .i64 0],.bool false]) (by simp[results, Tryz.results10,go_sem, *]) rfl ⟨rfl,by(with_reducible repeat first|assumption|exact bl0 _ _|refine blA ?_ _|(refine blS ?_ ?_ _;(simp<;>omega))|refine blD ?_|refine blN ?_ _|refine blF ?_ ‹_›)⟩
   ·have hge0:0≤d:=by omega
    have hR2:Zn l ins cl=true:=by rw[hR];exact decide_eq_true hge0
    unfold Xd repK repF repT
    simp only[hR2,if_true]
    rw[hH,hd]
    clear hR2 hH
    obtain⟨mm,hmm⟩: ∃mm,min ((d+1)*5) (ins.length:Int)=mm:=⟨_,rfl⟩
    rw[hmm]
    have hmi:=Lib.hid (show(if(ins.length:Int)<(d+1)*5 then(ins.length:Int) else(d+1)*5)=mm by rw[←hmm];split<;>omega)
    clear hmm hneg
    obtain⟨lx,hlx⟩: ∃lx,QC l ins=lx:=⟨_,rfl⟩
    have HLX:=Lib.hid hlx
    rw[hlx] at hleg
    clear hR hd hr hlx
    go_enter Sq.func10, Tryz.ntmps10
    go_wp2_with fail
    refine(Zi l A A' c c' _ (h.below (by(with_reducible repeat first|assumption|exact bl0 _ _|refine blA ?_ _|(refine blS ?_ ?_ _;(simp<;>omega))|refine blD ?_|refine blN ?_ _|refine blF ?_ ‹_›))) (hg.below (by(with_reducible repeat first|assumption|exact bl0 _ _|refine blA ?_ _|(refine blS ?_ ?_ _;(simp<;>omega))|refine blD ?_|refine blN ?_ _|refine blF ?_ ‹_›))) e e' hn1 hn2).mono ?_
    rw[hL]
    rintro e1 w1 ⟨rfl,hb1⟩
    have d1:Below w.heap.size w w1:=Qa (by(with_reducible repeat first|assumption|exact bl0 _ _|refine blA ?_ _|(refine blS ?_ ?_ _;(simp<;>omega))|refine blD ?_|refine blN ?_ _|refine blF ?_ ‹_›)) hb1
    have L1:Bk w1 w.heap.size 42 #[.int .i64 l.id,.int .i64 l.ticks,.int .i64 l.start.x,.int .i64 l.start.y,.slice A l.walls.length c,.slice A' l.gates.length c',.int .i64 l.fin.lo.x,.int .i64 l.fin.lo.y,.int .i64 l.fin.hi.x,.int .i64 l.fin.hi.y,.int .i64 l.bans]:=Bk.later (by(repeat first|(with_reducible first|assumption|exact kN _ _ _ (by first|assumption|simp<;>omega)|refine kA ?_ _|refine kD ?_|refine kW ?_ _|apply Bk.set'|refine kF ?_ (by simp<;>omega) _)|exact⟨by with_reducible rfl⟩|exact⟨by simp⟩)) hb1
    have R1:Bk w1 (w.heap.size+1) 34 #[.int .i64 0,.int .i64 0,.int .i64 0]:=Bk.later (by(repeat first|(with_reducible first|assumption|exact kN _ _ _ (by first|assumption|simp<;>omega)|refine kA ?_ _|refine kD ?_|refine kW ?_ _|apply Bk.set'|refine kF ?_ (by simp<;>omega) _)|exact⟨by with_reducible rfl⟩|exact⟨by simp⟩)) hb1
    have z1:=d1.size
    have zR1:=R1.lt
    clear hb1
    obtain⟨⟨l0,l1,l2,l3,l4,l5,l6,l7,l8,l9,l10⟩,lf⟩:=L1.c11
    obtain⟨⟨r0,r1,r2⟩,rf⟩:=R1.c3
    go_wp2_with fail
    refine(JQ l ins A A' A2 c c' c2 _ (h.below (by(with_reducible repeat first|assumption|exact bl0 _ _|refine blA ?_ _|(refine blS ?_ ?_ _;(simp<;>omega))|refine blD ?_|refine blN ?_ _|refine blF ?_ ‹_›))) (hg.below (by(with_reducible repeat first|assumption|exact bl0 _ _|refine blA ?_ _|(refine blS ?_ ?_ _;(simp<;>omega))|refine blD ?_|refine blN ?_ _|refine blF ?_ ‹_›))) e e' hn1 hn2 hL (hs.below (by(with_reducible repeat first|assumption|exact bl0 _ _|refine blA ?_ _|(refine blS ?_ ?_ _;(simp<;>omega))|refine blD ?_|refine blN ?_ _|refine blF ?_ ‹_›))) hn3).mono ?_
    rw[HLX.out]
    rintro e1 w2 ⟨rfl,hb2⟩
    have d2:Below w.heap.size w w2:=Qa (by(with_reducible repeat first|assumption|exact bl0 _ _|refine blA ?_ _|(refine blS ?_ ?_ _;(simp<;>omega))|refine blD ?_|refine blN ?_ _|refine blF ?_ ‹_›)) hb2
    have L2:Bk w2 w.heap.size 42 #[.int .i64 l.id,.int .i64 l.ticks,.int .i64 l.start.x,.int .i64 l.start.y,.slice A l.walls.length c,.slice A' l.gates.length c',.int .i64 l.fin.lo.x,.int .i64 l.fin.lo.y,.int .i64 l.fin.hi.x,.int .i64 l.fin.hi.y,.int .i64 l.bans]:=Bk.later (by(repeat first|(with_reducible first|assumption|exact kN _ _ _ (by first|assumption|simp<;>omega)|refine kA ?_ _|refine kD ?_|refine kW ?_ _|apply Bk.set'|refine kF ?_ (by simp<;>omega) _)|exact⟨by with_reducible rfl⟩|exact⟨by simp⟩)) hb2
    have R2:Bk w2 (w.heap.size+1) 34 #[.int .i64 0,.int .i64 0,.int .i64 0]:=Bk.later (by(repeat first|(with_reducible first|assumption|exact kN _ _ _ (by first|assumption|simp<;>omega)|refine kA ?_ _|refine kD ?_|refine kW ?_ _|apply Bk.set'|refine kF ?_ (by simp<;>omega) _)|exact⟨by with_reducible rfl⟩|exact⟨by simp⟩)) hb2
    have z2:=d2.size
    have zR2:=R2.lt
    clear hb2 L1 R1 d1 l0 l1 l2 l3 l4 l5 l6 l7 l8 l9 l10 lf r0 r1 r2 rf
    obtain⟨⟨l0,l1,l2,l3,l4,l5,l6,l7,l8,l9,l10⟩,lf⟩:=L2.c11
    obtain⟨⟨r0,r1,r2⟩,rf⟩:=R2.c3
    have hng: ¬0≤lx:=by omega
    go_wp2_with fail
    refine(XF l ins A A' A2 c c' c2 _ (h.below (by(with_reducible repeat first|assumption|exact bl0 _ _|refine blA ?_ _|(refine blS ?_ ?_ _;(simp<;>omega))|refine blD ?_|refine blN ?_ _|refine blF ?_ ‹_›))) (hg.below (by(with_reducible repeat first|assumption|exact bl0 _ _|refine blA ?_ _|(refine blS ?_ ?_ _;(simp<;>omega))|refine blD ?_|refine blN ?_ _|refine blF ?_ ‹_›))) e e' hn1 hn2 (hs.below (by(with_reducible repeat first|assumption|exact bl0 _ _|refine blA ?_ _|(refine blS ?_ ?_ _;(simp<;>omega))|refine blD ?_|refine blN ?_ _|refine blF ?_ ‹_›))) hn3).mono ?_
    rw[HHH.out]
    rintro e1 w3 ⟨A4,c4,rfl,hc4,hO3,hb3⟩
    have d3:Below w.heap.size w w3:=Qa (by(with_reducible repeat first|assumption|exact bl0 _ _|refine blA ?_ _|(refine blS ?_ ?_ _;(simp<;>omega))|refine blD ?_|refine blN ?_ _|refine blF ?_ ‹_›)) hb3
    have R3:Bk w3 (w.heap.size+1) 34 #[.int .i64 0,.int .i64 0,.int .i64 0]:=Bk.later (by(repeat first|(with_reducible first|assumption|exact kN _ _ _ (by first|assumption|simp<;>omega)|refine kA ?_ _|refine kD ?_|refine kW ?_ _|apply Bk.set'|refine kF ?_ (by simp<;>omega) _)|exact⟨by with_reducible rfl⟩|exact⟨by simp⟩)) hb3
    have z3:=d3.size
    have zR3:=R3.lt
    clear hb3 L2 R2 d2 l0 l1 l2 l3 l4 l5 l6 l7 l8 l9 l10 lf r0 r1 r2 rf
    go_wp2_with fail
    refine(Js A4 A3 H.length cl.length c4 c3 H cl _ (hO3.sl' Qi) (hcl.below (by(with_reducible repeat first|assumption|exact bl0 _ _|refine blA ?_ _|(refine blS ?_ ?_ _;(simp<;>omega))|refine blD ?_|refine blN ?_ _|refine blF ?_ ‹_›))) (by omega) h64).mono ?_
    rw[HD.out]
    rintro e1 w4 ⟨rfl,hb4⟩
    have d4:Below w.heap.size w w4:=Qa (by(with_reducible repeat first|assumption|exact bl0 _ _|refine blA ?_ _|(refine blS ?_ ?_ _;(simp<;>omega))|refine blD ?_|refine blN ?_ _|refine blF ?_ ‹_›)) hb4
    have R4':Bk w4 (w.heap.size+1) 34 #[.int .i64 0,.int .i64 0,.int .i64 0]:=Bk.later (by(repeat first|(with_reducible first|assumption|exact kN _ _ _ (by first|assumption|simp<;>omega)|refine kA ?_ _|refine kD ?_|refine kW ?_ _|apply Bk.set'|refine kF ?_ (by simp<;>omega) _)|exact⟨by with_reducible rfl⟩|exact⟨by simp⟩)) hb4
    have z4:=d4.size
    have zR4:=R4'.lt
    clear hb4 R3 d3 h hg hs hcl hO3 hleg hng
    obtain⟨⟨r0,r1,r2⟩,rf⟩:=R4'.c3
    have hw1:IntKind.i64.wrap (d*5)=d*5:=IntWalk.i64_in _ (by omega)
    have hw2:IntKind.i64.wrap (d+1)=d+1:=IntWalk.i64_in _ (by omega)
    have hw3:IntKind.i64.wrap ((d+1)*5)=(d+1)*5:=IntWalk.i64_in _ (by omega)
    have hmi2:=hmi.out
    go_wp2
    refine bodyPost_ret (v:= .tuple #[.agg #[.int .i64 d,.int .i64 (d*5),.int .i64 mm],.bool true]) (by simp[results, Tryz.results10,go_sem, *]) rfl ⟨rfl,by(with_reducible repeat first|assumption|exact bl0 _ _|refine blA ?_ _|(refine blS ?_ ?_ _;(simp<;>omega))|refine blD ?_|refine blN ?_ _|refine blF ?_ ‹_›)⟩
  ·have hR:Zn l ins cl=false:=by unfold Zn QA;rw[hL];simp;omega
   unfold Xd repK repF repT
   simp only[hR,Bool.false_eq_true,if_false]
   obtain⟨lx,hlx⟩: ∃lx,QC l ins=lx:=⟨_,rfl⟩
   have HLX:=Lib.hid hlx
   rw[hlx] at hleg
   clear hR hlx
   have hge:0≤lx:=by omega
   clear hleg
   go_enter Sq.func10, Tryz.ntmps10
   go_wp2_with fail
   refine(Zi l A A' c c' _ (h.below (by(with_reducible repeat first|assumption|exact bl0 _ _|refine blA ?_ _|(refine blS ?_ ?_ _;(simp<;>omega))|refine blD ?_|refine blN ?_ _|refine blF ?_ ‹_›))) (hg.below (by(with_reducible repeat first|assumption|exact bl0 _ _|refine blA ?_ _|(refine blS ?_ ?_ _;(simp<;>omega))|refine blD ?_|refine blN ?_ _|refine blF ?_ ‹_›))) e e' hn1 hn2).mono ?_
   rw[hL]
   rintro e1 w1 ⟨rfl,hb1⟩
   have d1:Below w.heap.size w w1:=Qa (by(with_reducible repeat first|assumption|exact bl0 _ _|refine blA ?_ _|(refine blS ?_ ?_ _;(simp<;>omega))|refine blD ?_|refine blN ?_ _|refine blF ?_ ‹_›)) hb1
   have L1:Bk w1 w.heap.size 42 #[.int .i64 l.id,.int .i64 l.ticks,.int .i64 l.start.x,.int .i64 l.start.y,.slice A l.walls.length c,.slice A' l.gates.length c',.int .i64 l.fin.lo.x,.int .i64 l.fin.lo.y,.int .i64 l.fin.hi.x,.int .i64 l.fin.hi.y,.int .i64 l.bans]:=Bk.later (by(repeat first|(with_reducible first|assumption|exact kN _ _ _ (by first|assumption|simp<;>omega)|refine kA ?_ _|refine kD ?_|refine kW ?_ _|apply Bk.set'|refine kF ?_ (by simp<;>omega) _)|exact⟨by with_reducible rfl⟩|exact⟨by simp⟩)) hb1
   have R1:Bk w1 (w.heap.size+1) 34 #[.int .i64 0,.int .i64 0,.int .i64 0]:=Bk.later (by(repeat first|(with_reducible first|assumption|exact kN _ _ _ (by first|assumption|simp<;>omega)|refine kA ?_ _|refine kD ?_|refine kW ?_ _|apply Bk.set'|refine kF ?_ (by simp<;>omega) _)|exact⟨by with_reducible rfl⟩|exact⟨by simp⟩)) hb1
   have z1:=d1.size
   have zR1:=R1.lt
   clear hb1
   obtain⟨⟨l0,l1,l2,l3,l4,l5,l6,l7,l8,l9,l10⟩,lf⟩:=L1.c11
   obtain⟨⟨r0,r1,r2⟩,rf⟩:=R1.c3
   go_wp2_with fail
   refine(JQ l ins A A' A2 c c' c2 _ (h.below (by(with_reducible repeat first|assumption|exact bl0 _ _|refine blA ?_ _|(refine blS ?_ ?_ _;(simp<;>omega))|refine blD ?_|refine blN ?_ _|refine blF ?_ ‹_›))) (hg.below (by(with_reducible repeat first|assumption|exact bl0 _ _|refine blA ?_ _|(refine blS ?_ ?_ _;(simp<;>omega))|refine blD ?_|refine blN ?_ _|refine blF ?_ ‹_›))) e e' hn1 hn2 hL (hs.below (by(with_reducible repeat first|assumption|exact bl0 _ _|refine blA ?_ _|(refine blS ?_ ?_ _;(simp<;>omega))|refine blD ?_|refine blN ?_ _|refine blF ?_ ‹_›))) hn3).mono ?_
   rw[HLX.out]
   rintro e1 w2 ⟨rfl,hb2⟩
   have d2:Below w.heap.size w w2:=Qa (by(with_reducible repeat first|assumption|exact bl0 _ _|refine blA ?_ _|(refine blS ?_ ?_ _;(simp<;>omega))|refine blD ?_|refine blN ?_ _|refine blF ?_ ‹_›)) hb2
   have R2:Bk w2 (w.heap.size+1) 34 #[.int .i64 0,.int .i64 0,.int .i64 0]:=Bk.later (by(repeat first|(with_reducible first|assumption|exact kN _ _ _ (by first|assumption|simp<;>omega)|refine kA ?_ _|refine kD ?_|refine kW ?_ _|apply Bk.set'|refine kF ?_ (by simp<;>omega) _)|exact⟨by with_reducible rfl⟩|exact⟨by simp⟩)) hb2
   have z2:=d2.size
   have zR2:=R2.lt
   clear hb2 L1 R1 d1 l0 l1 l2 l3 l4 l5 l6 l7 l8 l9 l10 lf r0 r1 r2 rf
   obtain⟨⟨r0,r1,r2⟩,rf⟩:=R2.c3
   go_wp2
   refine bodyPost_ret (v:= .tuple #[.agg #[.int .i64 0,.int .i64 0,.int .i64 0],.bool false]) (by simp[results, Tryz.results10,go_sem, *]) rfl ⟨rfl,by(with_reducible repeat first|assumption|exact bl0 _ _|refine blA ?_ _|(refine blS ?_ ?_ _;(simp<;>omega))|refine blD ?_|refine blN ?_ _|refine blF ?_ ‹_›)⟩
set_option maxRecDepth 100000 in
set_option maxHeartbeats 2000000 in
theorem QdZ(l:Lev)(ins:List Inp)(cl:List Int)(A A' A2 A3:Option Addr)(c c' c2 c3:Nat)(w:World)(h:Sl w 4 Qc A l.walls.length l.walls)(hg:Sl w 4 Qc A' l.gates.length l.gates)(hn1:(l.walls.length:Nat)≤9223372036854775807)(hn2:(l.gates.length:Nat)≤9223372036854775807)(hs:Sl w 3 Qd A2 ins.length ins)(hn3:ins.length≤9000000000000000000)(hcl:Sl w 1 Qe A3 cl.length cl)(h64:cl.length≤1048576):
 Calls Sq.prog 6 #[.agg #[.int .i64 l.id,.int .i64 l.ticks,.int .i64 l.start.x,.int .i64 l.start.y,.slice A l.walls.length c,.slice A' l.gates.length c',.int .i64 l.fin.lo.x,.int .i64 l.fin.lo.y,.int .i64 l.fin.hi.x,.int .i64 l.fin.hi.y,.int .i64 l.bans],.slice A2 ins.length c2,.slice A3 cl.length c3] w (Xd l ins cl w):=by
 obtain⟨H,hH⟩: ∃H,Qq l ins=H:=⟨_,rfl⟩
 have hH61:H.length≤61:=by rw[←hH];exact Qc0 l ins
 obtain⟨d,hd⟩: ∃d,Zg H cl=d:=⟨_,rfl⟩
 have hdb:=Qie H cl
 rw[hd] at hdb
 have hd64:d<1048577:=by omega
 have hd1: -1≤d:=by omega
 clear hdb
 obtain⟨ro,hro⟩: ∃ro,QA l ins=ro:=⟨_,rfl⟩
 have hR:Zn l ins cl=(ro && decide (0≤d)):=by unfold Zn;rw[hro,hH,hd]
 have HHH:=Lib.hid hH
 have HD:=Lib.hid hd
 have HRO:=Lib.hid hro
 clear hro
 cases ro
 ·have hR2:Zn l ins cl=false:=by rw[hR];rfl
  unfold Xd repK repF repT
  simp only[hR2,Bool.false_eq_true,if_false]
  clear hR hR2 hH hd
  go_enter Sq.func6, Tryz.ntmps6
  go_wp2_with fail
  refine(JJ l ins A A' A2 c c' c2 _ (h.below (by(with_reducible repeat first|assumption|exact bl0 _ _|refine blA ?_ _|(refine blS ?_ ?_ _;(simp<;>omega))|refine blD ?_|refine blN ?_ _|refine blF ?_ ‹_›))) (hg.below (by(with_reducible repeat first|assumption|exact bl0 _ _|refine blA ?_ _|(refine blS ?_ ?_ _;(simp<;>omega))|refine blD ?_|refine blN ?_ _|refine blF ?_ ‹_›))) (hs.below (by(with_reducible repeat first|assumption|exact bl0 _ _|refine blA ?_ _|(refine blS ?_ ?_ _;(simp<;>omega))|refine blD ?_|refine blN ?_ _|refine blF ?_ ‹_›))) hn1 hn2 hn3).mono ?_
  rw[HHH.out]
  rintro e1 w3 ⟨A4,c4,rfl,hc4,hO3,hb3⟩
  have d3:Below w.heap.size w w3:=Qa (by(with_reducible repeat first|assumption|exact bl0 _ _|refine blA ?_ _|(refine blS ?_ ?_ _;(simp<;>omega))|refine blD ?_|refine blN ?_ _|refine blF ?_ ‹_›)) hb3
  have L3:Bk w3 w.heap.size 42 #[.int .i64 l.id,.int .i64 l.ticks,.int .i64 l.start.x,.int .i64 l.start.y,.slice A l.walls.length c,.slice A' l.gates.length c',.int .i64 l.fin.lo.x,.int .i64 l.fin.lo.y,.int .i64 l.fin.hi.x,.int .i64 l.fin.hi.y,.int .i64 l.bans]:=Bk.later (by(repeat first|(with_reducible first|assumption|exact kN _ _ _ (by first|assumption|simp<;>omega)|refine kA ?_ _|refine kD ?_|refine kW ?_ _|apply Bk.set'|refine kF ?_ (by simp<;>omega) _)|exact⟨by with_reducible rfl⟩|exact⟨by simp⟩)) hb3
  have R3:Bk w3 (w.heap.size+1) 34 #[.int .i64 0,.int .i64 0,.int .i64 0]:=Bk.later (by(repeat first|(with_reducible first|assumption|exact kN _ _ _ (by first|assumption|simp<;>omega)|refine kA ?_ _|refine kD ?_|refine kW ?_ _|apply Bk.set'|refine kF ?_ (by simp<;>omega) _)|exact⟨by with_reducible rfl⟩|exact⟨by simp⟩)) hb3
  have z3:=d3.size
  have zR3:=R3.lt
  clear hb3
  go_wp2_with fail
  refine(Qaw A4 A3 H.length cl.length c4 c3 H cl _ (hO3.sl' Qi) (hcl.below (by(with_reducible repeat first|assumption|exact bl0 _ _|refine blA ?_ _|(refine blS ?_ ?_ _;(simp<;>omega))|refine blD ?_|refine blN ?_ _|refine blF ?_ ‹_›))) (by omega) (by omega)).mono ?_
  rw[HD.out]
  rintro e1 w4 ⟨rfl,hb4⟩
  have d4:Below w.heap.size w w4:=Qa (by(with_reducible repeat first|assumption|exact bl0 _ _|refine blA ?_ _|(refine blS ?_ ?_ _;(simp<;>omega))|refine blD ?_|refine blN ?_ _|refine blF ?_ ‹_›)) hb4
  have L4:Bk w4 w.heap.size 42 #[.int .i64 l.id,.int .i64 l.ticks,.int .i64 l.start.x,.int .i64 l.start.y,.slice A l.walls.length c,.slice A' l.gates.length c',.int .i64 l.fin.lo.x,.int .i64 l.fin.lo.y,.int .i64 l.fin.hi.x,.int .i64 l.fin.hi.y,.int .i64 l.bans]:=Bk.later (by(repeat first|(with_reducible first|assumption|exact kN _ _ _ (by first|assumption|simp<;>omega)|refine kA ?_ _|refine kD ?_|refine kW ?_ _|apply Bk.set'|refine kF ?_ (by simp<;>omega) _)|exact⟨by with_reducible rfl⟩|exact⟨by simp⟩)) hb4
  have R4':Bk w4 (w.heap.size+1) 34 #[.int .i64 0,.int .i64 0,.int .i64 0]:=Bk.later (by(repeat first|(with_reducible first|assumption|exact kN _ _ _ (by first|assumption|simp<;>omega)|refine kA ?_ _|refine kD ?_|refine kW ?_ _|apply Bk.set'|refine kF ?_ (by simp<;>omega) _)|exact⟨by with_reducible rfl⟩|exact⟨by simp⟩)) hb4
  have z4:=d4.size
  have zR4:=R4'.lt
  clear hb4 R3 L3 d3 hcl hO3
  obtain⟨⟨l0,l1,l2,l3,l4,l5,l6,l7,l8,l9,l10⟩,lf⟩:=L4.c11
  go_wp2_with fail
  refine(Jm l ins A A' A2 c c' c2 _ (h.below (by(with_reducible repeat first|assumption|exact bl0 _ _|refine blA ?_ _|(refine blS ?_ ?_ _;(simp<;>omega))|refine blD ?_|refine blN ?_ _|refine blF ?_ ‹_›))) (hg.below (by(with_reducible repeat first|assumption|exact bl0 _ _|refine blA ?_ _|(refine blS ?_ ?_ _;(simp<;>omega))|refine blD ?_|refine blN ?_ _|refine blF ?_ ‹_›))) (hs.below (by(with_reducible repeat first|assumption|exact bl0 _ _|refine blA ?_ _|(refine blS ?_ ?_ _;(simp<;>omega))|refine blD ?_|refine blN ?_ _|refine blF ?_ ‹_›))) hn1 hn2 (by omega)).mono ?_
  rw[HRO.out]
  rintro e1 w5 ⟨rfl,hb5⟩
  have d5:Below w.heap.size w w5:=Qa (by(with_reducible repeat first|assumption|exact bl0 _ _|refine blA ?_ _|(refine blS ?_ ?_ _;(simp<;>omega))|refine blD ?_|refine blN ?_ _|refine blF ?_ ‹_›)) hb5
  have R5':Bk w5 (w.heap.size+1) 34 #[.int .i64 0,.int .i64 0,.int .i64 0]:=Bk.later (by(repeat first|(with_reducible first|assumption|exact kN _ _ _ (by first|assumption|simp<;>omega)|refine kA ?_ _|refine kD ?_|refine kW ?_ _|apply Bk.set'|refine kF ?_ (by simp<;>omega) _)|exact⟨by with_reducible rfl⟩|exact⟨by simp⟩)) hb5
  have z5:=d5.size
  have zR5:=R5'.lt
  clear hb5 R4' L4 d4 h hg hs l0 l1 l2 l3 l4 l5 l6 l7 l8 l9 l10 lf
  obtain⟨⟨r0,r1,r2⟩,rf⟩:=R5'.c3
  go_wp2
  refine bodyPost_ret (v:= .tuple #[.agg #[.int .i64 0,.int .i64 0,.int .i64 0],.bool false]) (by simp[results, Tryz.results6,go_sem, *]) rfl ⟨rfl,by(with_reducible repeat first|assumption|exact bl0 _ _|refine blA ?_ _|(refine blS ?_ ?_ _;(simp<;>omega))|refine blD ?_|refine blN ?_ _|refine blF ?_ ‹_›)⟩
 ·by_cases hneg:d<0
  ·have hR2:Zn l ins cl=false:=by rw[hR,Bool.true_and];exact decide_eq_false (by omega)
   unfold Xd repK repF repT
   simp only[hR2,Bool.false_eq_true,if_false]
   clear hR hR2 hH hd
   go_enter Sq.func6, Tryz.ntmps6
   go_wp2_with fail
   refine(JJ l ins A A' A2 c c' c2 _ (h.below (by(with_reducible repeat first|assumption|exact bl0 _ _|refine blA ?_ _|(refine blS ?_ ?_ _;(simp<;>omega))|refine blD ?_|refine blN ?_ _|refine blF ?_ ‹_›))) (hg.below (by(with_reducible repeat first|assumption|exact bl0 _ _|refine blA ?_ _|(refine blS ?_ ?_ _;(simp<;>omega))|refine blD ?_|refine blN ?_ _|refine blF ?_ ‹_›))) (hs.below (by(with_reducible repeat first|assumption|exact bl0 _ _|refine blA ?_ _|(refine blS ?_ ?_ _;(simp<;>omega))|refine blD ?_|refine blN ?_ _|refine blF ?_ ‹_›))) hn1 hn2 hn3).mono ?_
   rw[HHH.out]
   rintro e1 w3 ⟨A4,c4,rfl,hc4,hO3,hb3⟩
   have d3:Below w.heap.size w w3:=Qa (by(with_reducible repeat first|assumption|exact bl0 _ _|refine blA ?_ _|(refine blS ?_ ?_ _;(simp<;>omega))|refine blD ?_|refine blN ?_ _|refine blF ?_ ‹_›)) hb3
   have L3:Bk w3 w.heap.size 42 #[.int .i64 l.id,.int .i64 l.ticks,.int .i64 l.start.x,.int .i64 l.start.y,.slice A l.walls.length c,.slice A' l.gates.length c',.int .i64 l.fin.lo.x,.int .i64 l.fin.lo.y,.int .i64 l.fin.hi.x,.int .i64 l.fin.hi.y,.int .i64 l.bans]:=Bk.later (by(repeat first|(with_reducible first|assumption|exact kN _ _ _ (by first|assumption|simp<;>omega)|refine kA ?_ _|refine kD ?_|refine kW ?_ _|apply Bk.set'|refine kF ?_ (by simp<;>omega) _)|exact⟨by with_reducible rfl⟩|exact⟨by simp⟩)) hb3
   have R3:Bk w3 (w.heap.size+1) 34 #[.int .i64 0,.int .i64 0,.int .i64 0]:=Bk.later (by(repeat first|(with_reducible first|assumption|exact kN _ _ _ (by first|assumption|simp<;>omega)|refine kA ?_ _|refine kD ?_|refine kW ?_ _|apply Bk.set'|refine kF ?_ (by simp<;>omega) _)|exact⟨by with_reducible rfl⟩|exact⟨by simp⟩)) hb3
   have z3:=d3.size
   have zR3:=R3.lt
   clear hb3
   go_wp2_with fail
   refine(Qaw A4 A3 H.length cl.length c4 c3 H cl _ (hO3.sl' Qi) (hcl.below (by(with_reducible repeat first|assumption|exact bl0 _ _|refine blA ?_ _|(refine blS ?_ ?_ _;(simp<;>omega))|refine blD ?_|refine blN ?_ _|refine blF ?_ ‹_›))) (by omega) (by omega)).mono ?_
   rw[HD.out]
   rintro e1 w4 ⟨rfl,hb4⟩
   have d4:Below w.heap.size w w4:=Qa (by(with_reducible repeat first|assumption|exact bl0 _ _|refine blA ?_ _|(refine blS ?_ ?_ _;(simp<;>omega))|refine blD ?_|refine blN ?_ _|refine blF ?_ ‹_›)) hb4
   have L4:Bk w4 w.heap.size 42 #[.int .i64 l.id,.int .i64 l.ticks,.int .i64 l.start.x,.int .i64 l.start.y,.slice A l.walls.length c,.slice A' l.gates.length c',.int .i64 l.fin.lo.x,.int .i64 l.fin.lo.y,.int .i64 l.fin.hi.x,.int .i64 l.fin.hi.y,.int .i64 l.bans]:=Bk.later (by(repeat first|(with_reducible first|assumption|exact kN _ _ _ (by first|assumption|simp<;>omega)|refine kA ?_ _|refine kD ?_|refine kW ?_ _|apply Bk.set'|refine kF ?_ (by simp<;>omega) _)|exact⟨by with_reducible rfl⟩|exact⟨by simp⟩)) hb4
   have R4':Bk w4 (w.heap.size+1) 34 #[.int .i64 0,.int .i64 0,.int .i64 0]:=Bk.later (by(repeat first|(with_reducible first|assumption|exact kN _ _ _ (by first|assumption|simp<;>omega)|refine kA ?_ _|refine kD ?_|refine kW ?_ _|apply Bk.set'|refine kF ?_ (by simp<;>omega) _)|exact⟨by with_reducible rfl⟩|exact⟨by simp⟩)) hb4
   have z4:=d4.size
   have zR4:=R4'.lt
   clear hb4 R3 L3 d3 hcl hO3
   obtain⟨⟨l0,l1,l2,l3,l4,l5,l6,l7,l8,l9,l10⟩,lf⟩:=L4.c11
   go_wp2_with fail
   refine(Jm l ins A A' A2 c c' c2 _ (h.below (by(with_reducible repeat first|assumption|exact bl0 _ _|refine blA ?_ _|(refine blS ?_ ?_ _;(simp<;>omega))|refine blD ?_|refine blN ?_ _|refine blF ?_ ‹_›))) (hg.below (by(with_reducible repeat first|assumption|exact bl0 _ _|refine blA ?_ _|(refine blS ?_ ?_ _;(simp<;>omega))|refine blD ?_|refine blN ?_ _|refine blF ?_ ‹_›))) (hs.below (by(with_reducible repeat first|assumption|exact bl0 _ _|refine blA ?_ _|(refine blS ?_ ?_ _;(simp<;>omega))|refine blD ?_|refine blN ?_ _|refine blF ?_ ‹_›))) hn1 hn2 (by omega)).mono ?_
   rw[HRO.out]
   rintro e1 w5 ⟨rfl,hb5⟩
   have d5:Below w.heap.size w w5:=Qa (by(with_reducible repeat first|assumption|exact bl0 _ _|refine blA ?_ _|(refine blS ?_ ?_ _;(simp<;>omega))|refine blD ?_|refine blN ?_ _|refine blF ?_ ‹_›)) hb5
   have R5':Bk w5 (w.heap.size+1) 34 #[.int .i64 0,.int .i64 0,.int .i64 0]:=Bk.later (by(repeat first|(with_reducible first|assumption|exact kN _ _ _ (by first|assumption|simp<;>omega)|refine kA ?_ _|refine kD ?_|refine kW ?_ _|apply Bk.set'|refine kF ?_ (by simp<;>omega) _)|exact⟨by with_reducible rfl⟩|exact⟨by simp⟩)) hb5
   have z5:=d5.size
   have zR5:=R5'.lt
   clear hb5 R4' L4 d4 h hg hs l0 l1 l2 l3 l4 l5 l6 l7 l8 l9 l10 lf
   obtain⟨⟨r0,r1,r2⟩,rf⟩:=R5'.c3
   go_wp2
   refine bodyPost_ret (v:= .tuple #[.agg #[.int .i64 0,.int .i64 0,.int .i64 0],.bool false]) (by simp[results, Tryz.results6,go_sem, *]) rfl ⟨rfl,by(with_reducible repeat first|assumption|exact bl0 _ _|refine blA ?_ _|(refine blS ?_ ?_ _;(simp<;>omega))|refine blD ?_|refine blN ?_ _|refine blF ?_ ‹_›)⟩
  ·have hge0:0≤d:=by omega
   have hR2:Zn l ins cl=true:=by rw[hR,Bool.true_and];exact decide_eq_true hge0
   unfold Xd repK repF repT
   simp only[hR2,if_true]
   rw[hH,hd]
   clear hR hR2 hH hd
   obtain⟨mm,hmm⟩: ∃mm,min ((d+1)*5) (ins.length:Int)=mm:=⟨_,rfl⟩
   rw[hmm]
   have hmi:=Lib.hid (show(if(ins.length:Int)<(d+1)*5 then(ins.length:Int) else(d+1)*5)=mm by rw[←hmm];split<;>omega)
   clear hmm hneg
   go_enter Sq.func6, Tryz.ntmps6
   go_wp2_with fail
   refine(JJ l ins A A' A2 c c' c2 _ (h.below (by(with_reducible repeat first|assumption|exact bl0 _ _|refine blA ?_ _|(refine blS ?_ ?_ _;(simp<;>omega))|refine blD ?_|refine blN ?_ _|refine blF ?_ ‹_›))) (hg.below (by(with_reducible repeat first|assumption|exact bl0 _ _|refine blA ?_ _|(refine blS ?_ ?_ _;(simp<;>omega))|refine blD ?_|refine blN ?_ _|refine blF ?_ ‹_›))) (hs.below (by(with_reducible repeat first|assumption|exact bl0 _ _|refine blA ?_ _|(refine blS ?_ ?_ _;(simp<;>omega))|refine blD ?_|refine blN ?_ _|refine blF ?_ ‹_›))) hn1 hn2 hn3).mono ?_
   rw[HHH.out]
   rintro e1 w3 ⟨A4,c4,rfl,hc4,hO3,hb3⟩
   have d3:Below w.heap.size w w3:=Qa (by(with_reducible repeat first|assumption|exact bl0 _ _|refine blA ?_ _|(refine blS ?_ ?_ _;(simp<;>omega))|refine blD ?_|refine blN ?_ _|refine blF ?_ ‹_›)) hb3
   have L3:Bk w3 w.heap.size 42 #[.int .i64 l.id,.int .i64 l.ticks,.int .i64 l.start.x,.int .i64 l.start.y,.slice A l.walls.length c,.slice A' l.gates.length c',.int .i64 l.fin.lo.x,.int .i64 l.fin.lo.y,.int .i64 l.fin.hi.x,.int .i64 l.fin.hi.y,.int .i64 l.bans]:=Bk.later (by(repeat first|(with_reducible first|assumption|exact kN _ _ _ (by first|assumption|simp<;>omega)|refine kA ?_ _|refine kD ?_|refine kW ?_ _|apply Bk.set'|refine kF ?_ (by simp<;>omega) _)|exact⟨by with_reducible rfl⟩|exact⟨by simp⟩)) hb3
   have R3:Bk w3 (w.heap.size+1) 34 #[.int .i64 0,.int .i64 0,.int .i64 0]:=Bk.later (by(repeat first|(with_reducible first|assumption|exact kN _ _ _ (by first|assumption|simp<;>omega)|refine kA ?_ _|refine kD ?_|refine kW ?_ _|apply Bk.set'|refine kF ?_ (by simp<;>omega) _)|exact⟨by with_reducible rfl⟩|exact⟨by simp⟩)) hb3
   have z3:=d3.size
   have zR3:=R3.lt
   clear hb3
   go_wp2_with fail
   refine(Qaw A4 A3 H.length cl.length c4 c3 H cl _ (hO3.sl' Qi) (hcl.below (by(with_reducible repeat first|assumption|exact bl0 _ _|refine blA ?_ _|(refine blS ?_ ?_ _;(simp<;>omega))|refine blD ?_|refine blN ?_ _|refine blF ?_ ‹_›))) (by omega) (by omega)).mono ?_
   rw[HD.out]
   rintro e1 w4 ⟨rfl,hb4⟩
   have d4:Below w.heap.size w w4:=Qa (by(with_reducible repeat first|assumption|exact bl0 _ _|refine blA ?_ _|(refine blS ?_ ?_ _;(simp<;>omega))|refine blD ?_|refine blN ?_ _|refine blF ?_ ‹_›)) hb4
   have L4:Bk w4 w.heap.size 42 #[.int .i64 l.id,.int .i64 l.ticks,.int .i64 l.start.x,.int .i64 l.start.y,.slice A l.walls.length c,.slice A' l.gates.length c',.int .i64 l.fin.lo.x,.int .i64 l.fin.lo.y,.int .i64 l.fin.hi.x,.int .i64 l.fin.hi.y,.int .i64 l.bans]:=Bk.later (by(repeat first|(with_reducible first|assumption|exact kN _ _ _ (by first|assumption|simp<;>omega)|refine kA ?_ _|refine kD ?_|refine kW ?_ _|apply Bk.set'|refine kF ?_ (by simp<;>omega) _)|exact⟨by with_reducible rfl⟩|exact⟨by simp⟩)) hb4
   have R4':Bk w4 (w.heap.size+1) 34 #[.int .i64 0,.int .i64 0,.int .i64 0]:=Bk.later (by(repeat first|(with_reducible first|assumption|exact kN _ _ _ (by first|assumption|simp<;>omega)|refine kA ?_ _|refine kD ?_|refine kW ?_ _|apply Bk.set'|refine kF ?_ (by simp<;>omega) _)|exact⟨by with_reducible rfl⟩|exact⟨by simp⟩)) hb4
   have z4:=d4.size
   have zR4:=R4'.lt
   clear hb4 R3 L3 d3 hcl hO3
   obtain⟨⟨l0,l1,l2,l3,l4,l5,l6,l7,l8,l9,l10⟩,lf⟩:=L4.c11
   go_wp2_with fail
   refine(Jm l ins A A' A2 c c' c2 _ (h.below (by(with_reducible repeat first|assumption|exact bl0 _ _|refine blA ?_ _|(refine blS ?_ ?_ _;(simp<;>omega))|refine blD ?_|refine blN ?_ _|refine blF ?_ ‹_›))) (hg.below (by(with_reducible repeat first|assumption|exact bl0 _ _|refine blA ?_ _|(refine blS ?_ ?_ _;(simp<;>omega))|refine blD ?_|refine blN ?_ _|refine blF ?_ ‹_›))) (hs.below (by(with_reducible repeat first|assumption|exact bl0 _ _|refine blA ?_ _|(refine blS ?_ ?_ _;(simp<;>omega))|refine blD ?_|refine blN ?_ _|refine blF ?_ ‹_›))) hn1 hn2 (by omega)).mono ?_
   rw[HRO.out]
   rintro e1 w5 ⟨rfl,hb5⟩
   have d5:Below w.heap.size w w5:=Qa (by(with_reducible repeat first|assumption|exact bl0 _ _|refine blA ?_ _|(refine blS ?_ ?_ _;(simp<;>omega))|refine blD ?_|refine blN ?_ _|refine blF ?_ ‹_›)) hb5
   have R5':Bk w5 (w.heap.size+1) 34 #[.int .i64 0,.int .i64 0,.int .i64 0]:=Bk.later (by(repeat first|(with_reducible first|assumption|exact kN _ _ _ (by first|assumption|simp<;>omega)|refine kA ?_ _|refine kD ?_|refine kW ?_ _|apply Bk.set'|refine kF ?_ (by simp<;>omega) _)|exact⟨by with_reducible rfl⟩|exact⟨by simp⟩)) hb5
   have z5:=d5.size
   have zR5:=R5'.lt
   clear hb5 R4' L4 d4 h hg hs l0 l1 l2 l3 l4 l5 l6 l7 l8 l9 l10 lf
   obtain⟨⟨r0,r1,r2⟩,rf⟩:=R5'.c3
   have hw1:IntKind.i64.wrap (d*5)=d*5:=IntWalk.i64_in _ (by omega)
   have hw2:IntKind.i64.wrap (d+1)=d+1:=IntWalk.i64_in _ (by omega)
   have hw3:IntKind.i64.wrap ((d+1)*5)=(d+1)*5:=IntWalk.i64_in _ (by omega)
   have hmi2:=hmi.out
   go_wp2
   refine bodyPost_ret (v:= .tuple #[.agg #[.int .i64 d,.int .i64 (d*5),.int .i64 mm],.bool true]) (by simp[results, Tryz.results6,go_sem, *]) rfl ⟨rfl,by(with_reducible repeat first|assumption|exact bl0 _ _|refine blA ?_ _|(refine blS ?_ ?_ _;(simp<;>omega))|refine blD ?_|refine blN ?_ _|refine blF ?_ ‹_›)⟩
end Go.Proofs.YtgaimkihacljdaaGreat
