/- The tick of a verdict: program and reference. Printed by gen/vert.py. (Round C) -/
import Derived.Test.YtpmjcjoeckajgaaGreatDvgR
import Derived.Test.YtpmjcjoeckajgaaGreatZBase
namespace Go.Proofs.YtpmjcjoeckajgaaGreat
open Go.ChangeShapes Go.WideShapes Go.ChangeAt Go.RowKit
def Xy(l:Lev)(r:Rep):Int:=if QL r && (QE l && (l.id == r.lv)) then(if 0≤QC l r.ins then QC l r.ins else if Zn l r.ins r.hs then repF l r.ins r.hs else -1) else -1
theorem QgE{r:Rep}(h:QL r=true):r.ins.length≤60∧r.hs.length≤12:=by
 simp only[QL,Bool.and_eq_true,Q5] at h
 obtain⟨h1,h2,h3,h4,h5,h6,h7⟩:=h
 obtain⟨hv,hl⟩:=Ja.1 h4
 unfold lenB at h5
 simp at h5
 omega
set_option maxRecDepth 100000 in
set_option maxHeartbeats 4000000 in
theorem QiS(l:Lev)(r:Rep)(A A' A2 A3:Option Addr)(c c' c2 c3:Nat)(w:World)(h:Sl w 4 Qc A l.walls.length l.walls)(hg:Sl w 4 Qc A' l.gates.length l.gates)(e:A=none→c=0)(e':A'=none→c'=0)(hn1:(l.walls.length:Nat)≤9223372036854775807)(hn2:(l.gates.length:Nat)≤9223372036854775807)(hs:Sl w 3 Qd A2 r.ins.length r.ins)(hs':Sl w 1 Qe A3 r.hs.length r.hs)(hn3:(r.ins.length:Nat)≤9223372036854775807)(hn4:(r.hs.length:Nat)≤9223372036854775807):
 Calls Sq.prog 20 #[.agg #[.int .i64 l.id,.int .i64 l.ticks,.int .i64 l.start.x,.int .i64 l.start.y,.slice A l.walls.length c,.slice A' l.gates.length c',.int .i64 l.fin.lo.x,.int .i64 l.fin.lo.y,.int .i64 l.fin.hi.x,.int .i64 l.fin.hi.y,.int .i64 l.bans],.agg #[.int .i64 r.lv,.int .i64 r.pl,.int .i64 r.sc,.slice A2 r.ins.length c2,.slice A3 r.hs.length c3,.int .i64 r.tag]] w fun e w'=>e= .returned (.int .i64 (Xy l r))∧Below w.heap.size w w':=by
 cases hv:QL r
 ·rw[show Xy l r= -1 by unfold Xy;rw[hv];rfl]
  go_enter Sq.func20, Tryz.ntmps20
  go_wp2_with fail
  refine(Xh A2 A3 c2 c3 r _ (hs.below (by(with_reducible repeat first|assumption|apply bl0|apply blA|apply blD|apply blN|refine blF ?_ ‹_›|(apply blS;(simp<;>omega))))) (hs'.below (by(with_reducible repeat first|assumption|apply bl0|apply blA|apply blD|apply blN|refine blF ?_ ‹_›|(apply blS;(simp<;>omega))))) hn3 hn4).mono ?_
  rw[hv]
  rintro e1 w1 ⟨rfl,hb1⟩
  obtain⟨hc1,hf1⟩:=Qy hb1;have hy1:w.heap.size<w1.heap.size:=(by have:=hb1.size;first|omega|(simp at this;omega));have hz1:w.heap.size+1<w1.heap.size:=(by have:=hb1.size;first|omega|(simp at this;omega))
  go_wp2
  go_ret
  exact⟨rfl,by(with_reducible repeat first|assumption|apply bl0|apply blA|apply blD|apply blN|refine blF ?_ ‹_›|(apply blS;(simp<;>omega)))⟩
 have hsz:=QgE hv
 cases hL:QE l
 ·rw[show Xy l r= -1 by unfold Xy;rw[hv,hL];rfl]
  go_enter Sq.func20, Tryz.ntmps20
  go_wp2_with fail
  refine(Xh A2 A3 c2 c3 r _ (hs.below (by(with_reducible repeat first|assumption|apply bl0|apply blA|apply blD|apply blN|refine blF ?_ ‹_›|(apply blS;(simp<;>omega))))) (hs'.below (by(with_reducible repeat first|assumption|apply bl0|apply blA|apply blD|apply blN|refine blF ?_ ‹_›|(apply blS;(simp<;>omega))))) hn3 hn4).mono ?_
  rw[hv]
  rintro e1 w1 ⟨rfl,hb1⟩
  have d1:Below w.heap.size w w1:=Qa (by(with_reducible repeat first|assumption|apply bl0|apply blA|apply blD|apply blN|refine blF ?_ ‹_›|(apply blS;(simp<;>omega)))) hb1
  obtain⟨L1,P1⟩:Bk w1 w.heap.size 42 #[.int .i64 l.id,.int .i64 l.ticks,.int .i64 l.start.x,.int .i64 l.start.y,.slice A l.walls.length c,.slice A' l.gates.length c',.int .i64 l.fin.lo.x,.int .i64 l.fin.lo.y,.int .i64 l.fin.hi.x,.int .i64 l.fin.hi.y,.int .i64 l.bans]∧Bk w1 (w.heap.size+1) 57 #[.int .i64 r.lv,.int .i64 r.pl,.int .i64 r.sc,.slice A2 r.ins.length c2,.slice A3 r.hs.length c3,.int .i64 r.tag]:=by refine⟨Bk.later ?_ hb1,Bk.later ?_ hb1⟩<;>(repeat first|(with_reducible first|assumption|exact kN _ _ _ (by first|assumption|simp<;>omega)|refine kA ?_ _|refine kD ?_|refine kW ?_ _|apply Bk.set'|refine kF ?_ (by simp<;>omega) _)|exact⟨by with_reducible rfl⟩|exact⟨by simp⟩)
  have y1:=d1.size
  have zP1:=P1.lt
  clear hb1
  obtain⟨⟨l0,l1,l2,l3,l4,l5,l6,l7,l8,l9,l10⟩,lf⟩:=L1.c11
  obtain⟨⟨p0,p1,p2,p3,p4,p5⟩,pf⟩:=P1.c6
  go_wp2_with fail
  refine(Zi l A A' c c' _ (h.below (by(with_reducible repeat first|assumption|apply bl0|apply blA|apply blD|apply blN|refine blF ?_ ‹_›|(apply blS;(simp<;>omega))))) (hg.below (by(with_reducible repeat first|assumption|apply bl0|apply blA|apply blD|apply blN|refine blF ?_ ‹_›|(apply blS;(simp<;>omega))))) e e' hn1 hn2).mono ?_
  rw[hL]
  rintro e1 w2 ⟨rfl,hb2⟩
  have d2:Below w.heap.size w w2:=Qa (by(with_reducible repeat first|assumption|apply bl0|apply blA|apply blD|apply blN|refine blF ?_ ‹_›|(apply blS;(simp<;>omega)))) hb2
  obtain⟨L2,P2⟩:Bk w2 w.heap.size 42 #[.int .i64 l.id,.int .i64 l.ticks,.int .i64 l.start.x,.int .i64 l.start.y,.slice A l.walls.length c,.slice A' l.gates.length c',.int .i64 l.fin.lo.x,.int .i64 l.fin.lo.y,.int .i64 l.fin.hi.x,.int .i64 l.fin.hi.y,.int .i64 l.bans]∧Bk w2 (w.heap.size+1) 57 #[.int .i64 r.lv,.int .i64 r.pl,.int .i64 r.sc,.slice A2 r.ins.length c2,.slice A3 r.hs.length c3,.int .i64 r.tag]:=by refine⟨Bk.later ?_ hb2,Bk.later ?_ hb2⟩<;>(repeat first|(with_reducible first|assumption|exact kN _ _ _ (by first|assumption|simp<;>omega)|refine kA ?_ _|refine kD ?_|refine kW ?_ _|apply Bk.set'|refine kF ?_ (by simp<;>omega) _)|exact⟨by with_reducible rfl⟩|exact⟨by simp⟩)
  have y2:=d2.size
  have zP2:=P2.lt
  clear hb2 L1 P1 d1 zP1 y1 l0 l1 l2 l3 l4 l5 l6 l7 l8 l9 l10 lf p0 p1 p2 p3 p4 p5 pf
  obtain⟨⟨l0,l1,l2,l3,l4,l5,l6,l7,l8,l9,l10⟩,lf⟩:=L2.c11
  obtain⟨⟨p0,p1,p2,p3,p4,p5⟩,pf⟩:=P2.c6
  go_wp2
  go_ret
  exact⟨rfl,by(with_reducible repeat first|assumption|apply bl0|apply blA|apply blD|apply blN|refine blF ?_ ‹_›|(apply blS;(simp<;>omega)))⟩
 have hbn:=(XP.1 hL).2.2.2.2.2.2.2.2.1
 cases hid:(l.id == r.lv)
 ·rw[show Xy l r= -1 by unfold Xy;rw[hv,hL,hid];rfl]
  go_enter Sq.func20, Tryz.ntmps20
  go_wp2_with fail
  refine(Xh A2 A3 c2 c3 r _ (hs.below (by(with_reducible repeat first|assumption|apply bl0|apply blA|apply blD|apply blN|refine blF ?_ ‹_›|(apply blS;(simp<;>omega))))) (hs'.below (by(with_reducible repeat first|assumption|apply bl0|apply blA|apply blD|apply blN|refine blF ?_ ‹_›|(apply blS;(simp<;>omega))))) hn3 hn4).mono ?_
  rw[hv]
  rintro e1 w1 ⟨rfl,hb1⟩
  have d1:Below w.heap.size w w1:=Qa (by(with_reducible repeat first|assumption|apply bl0|apply blA|apply blD|apply blN|refine blF ?_ ‹_›|(apply blS;(simp<;>omega)))) hb1
  obtain⟨L1,P1⟩:Bk w1 w.heap.size 42 #[.int .i64 l.id,.int .i64 l.ticks,.int .i64 l.start.x,.int .i64 l.start.y,.slice A l.walls.length c,.slice A' l.gates.length c',.int .i64 l.fin.lo.x,.int .i64 l.fin.lo.y,.int .i64 l.fin.hi.x,.int .i64 l.fin.hi.y,.int .i64 l.bans]∧Bk w1 (w.heap.size+1) 57 #[.int .i64 r.lv,.int .i64 r.pl,.int .i64 r.sc,.slice A2 r.ins.length c2,.slice A3 r.hs.length c3,.int .i64 r.tag]:=by refine⟨Bk.later ?_ hb1,Bk.later ?_ hb1⟩<;>(repeat first|(with_reducible first|assumption|exact kN _ _ _ (by first|assumption|simp<;>omega)|refine kA ?_ _|refine kD ?_|refine kW ?_ _|apply Bk.set'|refine kF ?_ (by simp<;>omega) _)|exact⟨by with_reducible rfl⟩|exact⟨by simp⟩)
  have y1:=d1.size
  have zP1:=P1.lt
  clear hb1
  obtain⟨⟨l0,l1,l2,l3,l4,l5,l6,l7,l8,l9,l10⟩,lf⟩:=L1.c11
  obtain⟨⟨p0,p1,p2,p3,p4,p5⟩,pf⟩:=P1.c6
  go_wp2_with fail
  refine(Zi l A A' c c' _ (h.below (by(with_reducible repeat first|assumption|apply bl0|apply blA|apply blD|apply blN|refine blF ?_ ‹_›|(apply blS;(simp<;>omega))))) (hg.below (by(with_reducible repeat first|assumption|apply bl0|apply blA|apply blD|apply blN|refine blF ?_ ‹_›|(apply blS;(simp<;>omega))))) e e' hn1 hn2).mono ?_
  rw[hL]
  rintro e1 w2 ⟨rfl,hb2⟩
  have d2:Below w.heap.size w w2:=Qa (by(with_reducible repeat first|assumption|apply bl0|apply blA|apply blD|apply blN|refine blF ?_ ‹_›|(apply blS;(simp<;>omega)))) hb2
  obtain⟨L2,P2⟩:Bk w2 w.heap.size 42 #[.int .i64 l.id,.int .i64 l.ticks,.int .i64 l.start.x,.int .i64 l.start.y,.slice A l.walls.length c,.slice A' l.gates.length c',.int .i64 l.fin.lo.x,.int .i64 l.fin.lo.y,.int .i64 l.fin.hi.x,.int .i64 l.fin.hi.y,.int .i64 l.bans]∧Bk w2 (w.heap.size+1) 57 #[.int .i64 r.lv,.int .i64 r.pl,.int .i64 r.sc,.slice A2 r.ins.length c2,.slice A3 r.hs.length c3,.int .i64 r.tag]:=by refine⟨Bk.later ?_ hb2,Bk.later ?_ hb2⟩<;>(repeat first|(with_reducible first|assumption|exact kN _ _ _ (by first|assumption|simp<;>omega)|refine kA ?_ _|refine kD ?_|refine kW ?_ _|apply Bk.set'|refine kF ?_ (by simp<;>omega) _)|exact⟨by with_reducible rfl⟩|exact⟨by simp⟩)
  have y2:=d2.size
  have zP2:=P2.lt
  clear hb2 L1 P1 d1 zP1 y1 l0 l1 l2 l3 l4 l5 l6 l7 l8 l9 l10 lf p0 p1 p2 p3 p4 p5 pf
  obtain⟨⟨l0,l1,l2,l3,l4,l5,l6,l7,l8,l9,l10⟩,lf⟩:=L2.c11
  obtain⟨⟨p0,p1,p2,p3,p4,p5⟩,pf⟩:=P2.c6
  go_wp2
  go_ret
  exact⟨rfl,by(with_reducible repeat first|assumption|apply bl0|apply blA|apply blD|apply blN|refine blF ?_ ‹_›|(apply blS;(simp<;>omega)))⟩
 have hT:Xy l r=(if 0≤QC l r.ins then QC l r.ins else if Zn l r.ins r.hs then repF l r.ins r.hs else -1):=by unfold Xy;rw[hv,hL,hid];rfl
 rw[hT]
 clear hT
 obtain⟨lx,hlx⟩: ∃lx,QC l r.ins=lx:=⟨_,rfl⟩
 have HLX:=Lib.hid hlx
 rw[hlx]
 clear hlx
 by_cases hge:0≤lx
 ·rw[if_pos hge]
  go_enter Sq.func20, Tryz.ntmps20
  go_wp2_with fail
  refine(Xh A2 A3 c2 c3 r _ (hs.below (by(with_reducible repeat first|assumption|apply bl0|apply blA|apply blD|apply blN|refine blF ?_ ‹_›|(apply blS;(simp<;>omega))))) (hs'.below (by(with_reducible repeat first|assumption|apply bl0|apply blA|apply blD|apply blN|refine blF ?_ ‹_›|(apply blS;(simp<;>omega))))) hn3 hn4).mono ?_
  rw[hv]
  rintro e1 w1 ⟨rfl,hb1⟩
  have d1:Below w.heap.size w w1:=Qa (by(with_reducible repeat first|assumption|apply bl0|apply blA|apply blD|apply blN|refine blF ?_ ‹_›|(apply blS;(simp<;>omega)))) hb1
  obtain⟨L1,P1⟩:Bk w1 w.heap.size 42 #[.int .i64 l.id,.int .i64 l.ticks,.int .i64 l.start.x,.int .i64 l.start.y,.slice A l.walls.length c,.slice A' l.gates.length c',.int .i64 l.fin.lo.x,.int .i64 l.fin.lo.y,.int .i64 l.fin.hi.x,.int .i64 l.fin.hi.y,.int .i64 l.bans]∧Bk w1 (w.heap.size+1) 57 #[.int .i64 r.lv,.int .i64 r.pl,.int .i64 r.sc,.slice A2 r.ins.length c2,.slice A3 r.hs.length c3,.int .i64 r.tag]:=by refine⟨Bk.later ?_ hb1,Bk.later ?_ hb1⟩<;>(repeat first|(with_reducible first|assumption|exact kN _ _ _ (by first|assumption|simp<;>omega)|refine kA ?_ _|refine kD ?_|refine kW ?_ _|apply Bk.set'|refine kF ?_ (by simp<;>omega) _)|exact⟨by with_reducible rfl⟩|exact⟨by simp⟩)
  have y1:=d1.size
  have zP1:=P1.lt
  clear hb1
  obtain⟨⟨l0,l1,l2,l3,l4,l5,l6,l7,l8,l9,l10⟩,lf⟩:=L1.c11
  obtain⟨⟨p0,p1,p2,p3,p4,p5⟩,pf⟩:=P1.c6
  go_wp2_with fail
  refine(Zi l A A' c c' _ (h.below (by(with_reducible repeat first|assumption|apply bl0|apply blA|apply blD|apply blN|refine blF ?_ ‹_›|(apply blS;(simp<;>omega))))) (hg.below (by(with_reducible repeat first|assumption|apply bl0|apply blA|apply blD|apply blN|refine blF ?_ ‹_›|(apply blS;(simp<;>omega))))) e e' hn1 hn2).mono ?_
  rw[hL]
  rintro e1 w2 ⟨rfl,hb2⟩
  have d2:Below w.heap.size w w2:=Qa (by(with_reducible repeat first|assumption|apply bl0|apply blA|apply blD|apply blN|refine blF ?_ ‹_›|(apply blS;(simp<;>omega)))) hb2
  obtain⟨L2,P2⟩:Bk w2 w.heap.size 42 #[.int .i64 l.id,.int .i64 l.ticks,.int .i64 l.start.x,.int .i64 l.start.y,.slice A l.walls.length c,.slice A' l.gates.length c',.int .i64 l.fin.lo.x,.int .i64 l.fin.lo.y,.int .i64 l.fin.hi.x,.int .i64 l.fin.hi.y,.int .i64 l.bans]∧Bk w2 (w.heap.size+1) 57 #[.int .i64 r.lv,.int .i64 r.pl,.int .i64 r.sc,.slice A2 r.ins.length c2,.slice A3 r.hs.length c3,.int .i64 r.tag]:=by refine⟨Bk.later ?_ hb2,Bk.later ?_ hb2⟩<;>(repeat first|(with_reducible first|assumption|exact kN _ _ _ (by first|assumption|simp<;>omega)|refine kA ?_ _|refine kD ?_|refine kW ?_ _|apply Bk.set'|refine kF ?_ (by simp<;>omega) _)|exact⟨by with_reducible rfl⟩|exact⟨by simp⟩)
  have y2:=d2.size
  have zP2:=P2.lt
  clear hb2 L1 P1 d1 zP1 y1 l0 l1 l2 l3 l4 l5 l6 l7 l8 l9 l10 lf p0 p1 p2 p3 p4 p5 pf
  obtain⟨⟨l0,l1,l2,l3,l4,l5,l6,l7,l8,l9,l10⟩,lf⟩:=L2.c11
  obtain⟨⟨p0,p1,p2,p3,p4,p5⟩,pf⟩:=P2.c6
  go_wp2_with fail
  refine(JQ l r.ins A A' A2 c c' c2 _ (h.below (by(with_reducible repeat first|assumption|apply bl0|apply blA|apply blD|apply blN|refine blF ?_ ‹_›|(apply blS;(simp<;>omega))))) (hg.below (by(with_reducible repeat first|assumption|apply bl0|apply blA|apply blD|apply blN|refine blF ?_ ‹_›|(apply blS;(simp<;>omega))))) e e' hn1 hn2 hL (hs.below (by(with_reducible repeat first|assumption|apply bl0|apply blA|apply blD|apply blN|refine blF ?_ ‹_›|(apply blS;(simp<;>omega))))) hn3).mono ?_
  rw[HLX.out]
  rintro e1 w3 ⟨rfl,hb3⟩
  have d3:Below w.heap.size w w3:=Qa (by(with_reducible repeat first|assumption|apply bl0|apply blA|apply blD|apply blN|refine blF ?_ ‹_›|(apply blS;(simp<;>omega)))) hb3
  obtain⟨L3,P3⟩:Bk w3 w.heap.size 42 #[.int .i64 l.id,.int .i64 l.ticks,.int .i64 l.start.x,.int .i64 l.start.y,.slice A l.walls.length c,.slice A' l.gates.length c',.int .i64 l.fin.lo.x,.int .i64 l.fin.lo.y,.int .i64 l.fin.hi.x,.int .i64 l.fin.hi.y,.int .i64 l.bans]∧Bk w3 (w.heap.size+1) 57 #[.int .i64 r.lv,.int .i64 r.pl,.int .i64 r.sc,.slice A2 r.ins.length c2,.slice A3 r.hs.length c3,.int .i64 r.tag]:=by refine⟨Bk.later ?_ hb3,Bk.later ?_ hb3⟩<;>(repeat first|(with_reducible first|assumption|exact kN _ _ _ (by first|assumption|simp<;>omega)|refine kA ?_ _|refine kD ?_|refine kW ?_ _|apply Bk.set'|refine kF ?_ (by simp<;>omega) _)|exact⟨by with_reducible rfl⟩|exact⟨by simp⟩)
  have y3:=d3.size
  have zP3:=P3.lt
  clear hb3 L2 P2 d2 zP2 y2 l0 l1 l2 l3 l4 l5 l6 l7 l8 l9 l10 lf p0 p1 p2 p3 p4 p5 pf
  obtain⟨⟨l0,l1,l2,l3,l4,l5,l6,l7,l8,l9,l10⟩,lf⟩:=L3.c11
  obtain⟨⟨p0,p1,p2,p3,p4,p5⟩,pf⟩:=P3.c6
  go_wp2
  go_ret
  exact⟨rfl,by(with_reducible repeat first|assumption|apply bl0|apply blA|apply blD|apply blN|refine blF ?_ ‹_›|(apply blS;(simp<;>omega)))⟩
 rw[if_neg hge]
 obtain⟨ro,hro⟩: ∃ro,Zn l r.ins r.hs=ro:=⟨_,rfl⟩
 obtain⟨rk,hrk⟩: ∃rk,repK l r.ins r.hs=rk:=⟨_,rfl⟩
 obtain⟨rf,hrf⟩: ∃rf,repF l r.ins r.hs=rf:=⟨_,rfl⟩
 obtain⟨rt,hrt⟩: ∃rt,repT l r.ins r.hs=rt:=⟨_,rfl⟩
 rw[hro,hrf]
 have HRO:=Lib.hid hro
 have HRK:=Lib.hid hrk
 have HRF:=Lib.hid hrf
 have HRT:=Lib.hid hrt
 clear hro hrk hrf hrt
 go_enter Sq.func20, Tryz.ntmps20
 go_wp2_with fail
 refine(Xh A2 A3 c2 c3 r _ (hs.below (by(with_reducible repeat first|assumption|apply bl0|apply blA|apply blD|apply blN|refine blF ?_ ‹_›|(apply blS;(simp<;>omega))))) (hs'.below (by(with_reducible repeat first|assumption|apply bl0|apply blA|apply blD|apply blN|refine blF ?_ ‹_›|(apply blS;(simp<;>omega))))) hn3 hn4).mono ?_
 rw[hv]
 rintro e1 w1 ⟨rfl,hb1⟩
 have d1:Below w.heap.size w w1:=Qa (by(with_reducible repeat first|assumption|apply bl0|apply blA|apply blD|apply blN|refine blF ?_ ‹_›|(apply blS;(simp<;>omega)))) hb1
 obtain⟨L1,P1⟩:Bk w1 w.heap.size 42 #[.int .i64 l.id,.int .i64 l.ticks,.int .i64 l.start.x,.int .i64 l.start.y,.slice A l.walls.length c,.slice A' l.gates.length c',.int .i64 l.fin.lo.x,.int .i64 l.fin.lo.y,.int .i64 l.fin.hi.x,.int .i64 l.fin.hi.y,.int .i64 l.bans]∧Bk w1 (w.heap.size+1) 57 #[.int .i64 r.lv,.int .i64 r.pl,.int .i64 r.sc,.slice A2 r.ins.length c2,.slice A3 r.hs.length c3,.int .i64 r.tag]:=by refine⟨Bk.later ?_ hb1,Bk.later ?_ hb1⟩<;>(repeat first|(with_reducible first|assumption|exact kN _ _ _ (by first|assumption|simp<;>omega)|refine kA ?_ _|refine kD ?_|refine kW ?_ _|apply Bk.set'|refine kF ?_ (by simp<;>omega) _)|exact⟨by with_reducible rfl⟩|exact⟨by simp⟩)
 have y1:=d1.size
 have zP1:=P1.lt
 clear hb1
 obtain⟨⟨l0,l1,l2,l3,l4,l5,l6,l7,l8,l9,l10⟩,lf⟩:=L1.c11
 obtain⟨⟨p0,p1,p2,p3,p4,p5⟩,pf⟩:=P1.c6
 go_wp2_with fail
 refine(Zi l A A' c c' _ (h.below (by(with_reducible repeat first|assumption|apply bl0|apply blA|apply blD|apply blN|refine blF ?_ ‹_›|(apply blS;(simp<;>omega))))) (hg.below (by(with_reducible repeat first|assumption|apply bl0|apply blA|apply blD|apply blN|refine blF ?_ ‹_›|(apply blS;(simp<;>omega))))) e e' hn1 hn2).mono ?_
 rw[hL]
 rintro e1 w2 ⟨rfl,hb2⟩
 have d2:Below w.heap.size w w2:=Qa (by(with_reducible repeat first|assumption|apply bl0|apply blA|apply blD|apply blN|refine blF ?_ ‹_›|(apply blS;(simp<;>omega)))) hb2
 obtain⟨L2,P2⟩:Bk w2 w.heap.size 42 #[.int .i64 l.id,.int .i64 l.ticks,.int .i64 l.start.x,.int .i64 l.start.y,.slice A l.walls.length c,.slice A' l.gates.length c',.int .i64 l.fin.lo.x,.int .i64 l.fin.lo.y,.int .i64 l.fin.hi.x,.int .i64 l.fin.hi.y,.int .i64 l.bans]∧Bk w2 (w.heap.size+1) 57 #[.int .i64 r.lv,.int .i64 r.pl,.int .i64 r.sc,.slice A2 r.ins.length c2,.slice A3 r.hs.length c3,.int .i64 r.tag]:=by refine⟨Bk.later ?_ hb2,Bk.later ?_ hb2⟩<;>(repeat first|(with_reducible first|assumption|exact kN _ _ _ (by first|assumption|simp<;>omega)|refine kA ?_ _|refine kD ?_|refine kW ?_ _|apply Bk.set'|refine kF ?_ (by simp<;>omega) _)|exact⟨by with_reducible rfl⟩|exact⟨by simp⟩)
 have y2:=d2.size
 have zP2:=P2.lt
 clear hb2 L1 P1 d1 zP1 y1 l0 l1 l2 l3 l4 l5 l6 l7 l8 l9 l10 lf p0 p1 p2 p3 p4 p5 pf
 obtain⟨⟨l0,l1,l2,l3,l4,l5,l6,l7,l8,l9,l10⟩,lf⟩:=L2.c11
 obtain⟨⟨p0,p1,p2,p3,p4,p5⟩,pf⟩:=P2.c6
 go_wp2_with fail
 refine(JQ l r.ins A A' A2 c c' c2 _ (h.below (by(with_reducible repeat first|assumption|apply bl0|apply blA|apply blD|apply blN|refine blF ?_ ‹_›|(apply blS;(simp<;>omega))))) (hg.below (by(with_reducible repeat first|assumption|apply bl0|apply blA|apply blD|apply blN|refine blF ?_ ‹_›|(apply blS;(simp<;>omega))))) e e' hn1 hn2 hL (hs.below (by(with_reducible repeat first|assumption|apply bl0|apply blA|apply blD|apply blN|refine blF ?_ ‹_›|(apply blS;(simp<;>omega))))) hn3).mono ?_
 rw[HLX.out]
 rintro e1 w3 ⟨rfl,hb3⟩
 have d3:Below w.heap.size w w3:=Qa (by(with_reducible repeat first|assumption|apply bl0|apply blA|apply blD|apply blN|refine blF ?_ ‹_›|(apply blS;(simp<;>omega)))) hb3
 obtain⟨L3,P3⟩:Bk w3 w.heap.size 42 #[.int .i64 l.id,.int .i64 l.ticks,.int .i64 l.start.x,.int .i64 l.start.y,.slice A l.walls.length c,.slice A' l.gates.length c',.int .i64 l.fin.lo.x,.int .i64 l.fin.lo.y,.int .i64 l.fin.hi.x,.int .i64 l.fin.hi.y,.int .i64 l.bans]∧Bk w3 (w.heap.size+1) 57 #[.int .i64 r.lv,.int .i64 r.pl,.int .i64 r.sc,.slice A2 r.ins.length c2,.slice A3 r.hs.length c3,.int .i64 r.tag]:=by refine⟨Bk.later ?_ hb3,Bk.later ?_ hb3⟩<;>(repeat first|(with_reducible first|assumption|exact kN _ _ _ (by first|assumption|simp<;>omega)|refine kA ?_ _|refine kD ?_|refine kW ?_ _|apply Bk.set'|refine kF ?_ (by simp<;>omega) _)|exact⟨by with_reducible rfl⟩|exact⟨by simp⟩)
 have y3:=d3.size
 have zP3:=P3.lt
 clear hb3 L2 P2 d2 zP2 y2 l0 l1 l2 l3 l4 l5 l6 l7 l8 l9 l10 lf p0 p1 p2 p3 p4 p5 pf
 obtain⟨⟨l0,l1,l2,l3,l4,l5,l6,l7,l8,l9,l10⟩,lf⟩:=L3.c11
 obtain⟨⟨p0,p1,p2,p3,p4,p5⟩,pf⟩:=P3.c6
 go_wp2_with fail
 refine(Qbx l r.ins r.hs A A' A2 A3 c c' c2 c3 _ (h.below (by(with_reducible repeat first|assumption|apply bl0|apply blA|apply blD|apply blN|refine blF ?_ ‹_›|(apply blS;(simp<;>omega))))) (hg.below (by(with_reducible repeat first|assumption|apply bl0|apply blA|apply blD|apply blN|refine blF ?_ ‹_›|(apply blS;(simp<;>omega))))) e e' hn1 hn2 (hs.below (by(with_reducible repeat first|assumption|apply bl0|apply blA|apply blD|apply blN|refine blF ?_ ‹_›|(apply blS;(simp<;>omega))))) hn3 (hs'.below (by(with_reducible repeat first|assumption|apply bl0|apply blA|apply blD|apply blN|refine blF ?_ ‹_›|(apply blS;(simp<;>omega))))) (by omega)).mono ?_
 unfold Xd
 rw[HRK.out,HRF.out,HRT.out,HRO.out]
 rintro e1 w5 ⟨rfl,hb5⟩
 have d5:Below w.heap.size w w5:=Qa (by(with_reducible repeat first|assumption|apply bl0|apply blA|apply blD|apply blN|refine blF ?_ ‹_›|(apply blS;(simp<;>omega)))) hb5
 clear hb5 L3 P3 d3 l0 l1 l2 l3 l4 l5 l6 l7 l8 l9 l10 lf p0 p1 p2 p3 p4 p5 pf
 have y5:=d5.size
 cases ro
 ·go_wp2
  go_ret
  exact⟨rfl,by(with_reducible repeat first|assumption|apply bl0|apply blA|apply blD|apply blN|refine blF ?_ ‹_›|(apply blS;(simp<;>omega)))⟩
 ·go_wp2
  go_ret
  exact⟨rfl,by(with_reducible repeat first|assumption|apply bl0|apply blA|apply blD|apply blN|refine blF ?_ ‹_›|(apply blS;(simp<;>omega)))⟩
set_option maxRecDepth 100000 in
set_option maxHeartbeats 4000000 in
theorem Qll(l:Lev)(r:Rep)(A A' A2 A3:Option Addr)(c c' c2 c3:Nat)(w:World)(h:Sl w 4 Qc A l.walls.length l.walls)(hg:Sl w 4 Qc A' l.gates.length l.gates)(hn1:(l.walls.length:Nat)≤9223372036854775807)(hn2:(l.gates.length:Nat)≤9223372036854775807)(hs:Sl w 3 Qd A2 r.ins.length r.ins)(hs':Sl w 1 Qe A3 r.hs.length r.hs)(hn3:(r.ins.length:Nat)≤9223372036854775807)(hn4:(r.hs.length:Nat)≤9223372036854775807):
 Calls Sq.prog 18 #[.agg #[.int .i64 l.id,.int .i64 l.ticks,.int .i64 l.start.x,.int .i64 l.start.y,.slice A l.walls.length c,.slice A' l.gates.length c',.int .i64 l.fin.lo.x,.int .i64 l.fin.lo.y,.int .i64 l.fin.hi.x,.int .i64 l.fin.hi.y,.int .i64 l.bans],.agg #[.int .i64 r.lv,.int .i64 r.pl,.int .i64 r.sc,.slice A2 r.ins.length c2,.slice A3 r.hs.length c3,.int .i64 r.tag]] w fun e w'=>e= .returned (.int .i64 (Xy l r))∧Below w.heap.size w w':=by
 cases hv:QL r
 ·rw[show Xy l r= -1 by unfold Xy;rw[hv];rfl]
  go_enter Sq.func18, Tryz.ntmps18
  go_wp2_with fail
  refine(XR A2 A3 c2 c3 r _ (hs.below (by(with_reducible repeat first|assumption|apply bl0|apply blA|apply blD|apply blN|refine blF ?_ ‹_›|(apply blS;(simp<;>omega))))) (hs'.below (by(with_reducible repeat first|assumption|apply bl0|apply blA|apply blD|apply blN|refine blF ?_ ‹_›|(apply blS;(simp<;>omega))))) hn3 hn4).mono ?_
  rw[hv]
  rintro e1 w1 ⟨rfl,hb1⟩
  obtain⟨hc1,hf1⟩:=Qy hb1;have hy1:w.heap.size<w1.heap.size:=(by have:=hb1.size;first|omega|(simp at this;omega));have hz1:w.heap.size+1<w1.heap.size:=(by have:=hb1.size;first|omega|(simp at this;omega))
  go_wp2
  go_ret
  exact⟨rfl,by(with_reducible repeat first|assumption|apply bl0|apply blA|apply blD|apply blN|refine blF ?_ ‹_›|(apply blS;(simp<;>omega)))⟩
 have hsz:=QgE hv
 cases hL:QE l
 ·rw[show Xy l r= -1 by unfold Xy;rw[hv,hL];rfl]
  go_enter Sq.func18, Tryz.ntmps18
  go_wp2_with fail
  refine(XR A2 A3 c2 c3 r _ (hs.below (by(with_reducible repeat first|assumption|apply bl0|apply blA|apply blD|apply blN|refine blF ?_ ‹_›|(apply blS;(simp<;>omega))))) (hs'.below (by(with_reducible repeat first|assumption|apply bl0|apply blA|apply blD|apply blN|refine blF ?_ ‹_›|(apply blS;(simp<;>omega))))) hn3 hn4).mono ?_
  rw[hv]
  rintro e1 w1 ⟨rfl,hb1⟩
  have d1:Below w.heap.size w w1:=Qa (by(with_reducible repeat first|assumption|apply bl0|apply blA|apply blD|apply blN|refine blF ?_ ‹_›|(apply blS;(simp<;>omega)))) hb1
  obtain⟨L1,P1⟩:Bk w1 w.heap.size 42 #[.int .i64 l.id,.int .i64 l.ticks,.int .i64 l.start.x,.int .i64 l.start.y,.slice A l.walls.length c,.slice A' l.gates.length c',.int .i64 l.fin.lo.x,.int .i64 l.fin.lo.y,.int .i64 l.fin.hi.x,.int .i64 l.fin.hi.y,.int .i64 l.bans]∧Bk w1 (w.heap.size+1) 57 #[.int .i64 r.lv,.int .i64 r.pl,.int .i64 r.sc,.slice A2 r.ins.length c2,.slice A3 r.hs.length c3,.int .i64 r.tag]:=by refine⟨Bk.later ?_ hb1,Bk.later ?_ hb1⟩<;>(repeat first|(with_reducible first|assumption|exact kN _ _ _ (by first|assumption|simp<;>omega)|refine kA ?_ _|refine kD ?_|refine kW ?_ _|apply Bk.set'|refine kF ?_ (by simp<;>omega) _)|exact⟨by with_reducible rfl⟩|exact⟨by simp⟩)
  have y1:=d1.size
  have zP1:=P1.lt
  clear hb1
  obtain⟨⟨l0,l1,l2,l3,l4,l5,l6,l7,l8,l9,l10⟩,lf⟩:=L1.c11
  obtain⟨⟨p0,p1,p2,p3,p4,p5⟩,pf⟩:=P1.c6
  go_wp2_with fail
  refine(ZH l A A' c c' _ (h.below (by(with_reducible repeat first|assumption|apply bl0|apply blA|apply blD|apply blN|refine blF ?_ ‹_›|(apply blS;(simp<;>omega))))) (hg.below (by(with_reducible repeat first|assumption|apply bl0|apply blA|apply blD|apply blN|refine blF ?_ ‹_›|(apply blS;(simp<;>omega))))) hn1 hn2).mono ?_
  rw[hL]
  rintro e1 w2 ⟨rfl,hb2⟩
  have d2:Below w.heap.size w w2:=Qa (by(with_reducible repeat first|assumption|apply bl0|apply blA|apply blD|apply blN|refine blF ?_ ‹_›|(apply blS;(simp<;>omega)))) hb2
  obtain⟨L2,P2⟩:Bk w2 w.heap.size 42 #[.int .i64 l.id,.int .i64 l.ticks,.int .i64 l.start.x,.int .i64 l.start.y,.slice A l.walls.length c,.slice A' l.gates.length c',.int .i64 l.fin.lo.x,.int .i64 l.fin.lo.y,.int .i64 l.fin.hi.x,.int .i64 l.fin.hi.y,.int .i64 l.bans]∧Bk w2 (w.heap.size+1) 57 #[.int .i64 r.lv,.int .i64 r.pl,.int .i64 r.sc,.slice A2 r.ins.length c2,.slice A3 r.hs.length c3,.int .i64 r.tag]:=by refine⟨Bk.later ?_ hb2,Bk.later ?_ hb2⟩<;>(repeat first|(with_reducible first|assumption|exact kN _ _ _ (by first|assumption|simp<;>omega)|refine kA ?_ _|refine kD ?_|refine kW ?_ _|apply Bk.set'|refine kF ?_ (by simp<;>omega) _)|exact⟨by with_reducible rfl⟩|exact⟨by simp⟩)
  have y2:=d2.size
  have zP2:=P2.lt
  clear hb2 L1 P1 d1 zP1 y1 l0 l1 l2 l3 l4 l5 l6 l7 l8 l9 l10 lf p0 p1 p2 p3 p4 p5 pf
  obtain⟨⟨l0,l1,l2,l3,l4,l5,l6,l7,l8,l9,l10⟩,lf⟩:=L2.c11
  obtain⟨⟨p0,p1,p2,p3,p4,p5⟩,pf⟩:=P2.c6
  go_wp2
  go_ret
  exact⟨rfl,by(with_reducible repeat first|assumption|apply bl0|apply blA|apply blD|apply blN|refine blF ?_ ‹_›|(apply blS;(simp<;>omega)))⟩
 have hbn:=(XP.1 hL).2.2.2.2.2.2.2.2.1
 cases hid:(l.id == r.lv)
 ·rw[show Xy l r= -1 by unfold Xy;rw[hv,hL,hid];rfl]
  go_enter Sq.func18, Tryz.ntmps18
  go_wp2_with fail
  refine(XR A2 A3 c2 c3 r _ (hs.below (by(with_reducible repeat first|assumption|apply bl0|apply blA|apply blD|apply blN|refine blF ?_ ‹_›|(apply blS;(simp<;>omega))))) (hs'.below (by(with_reducible repeat first|assumption|apply bl0|apply blA|apply blD|apply blN|refine blF ?_ ‹_›|(apply blS;(simp<;>omega))))) hn3 hn4).mono ?_
  rw[hv]
  rintro e1 w1 ⟨rfl,hb1⟩
  have d1:Below w.heap.size w w1:=Qa (by(with_reducible repeat first|assumption|apply bl0|apply blA|apply blD|apply blN|refine blF ?_ ‹_›|(apply blS;(simp<;>omega)))) hb1
  obtain⟨L1,P1⟩:Bk w1 w.heap.size 42 #[.int .i64 l.id,.int .i64 l.ticks,.int .i64 l.start.x,.int .i64 l.start.y,.slice A l.walls.length c,.slice A' l.gates.length c',.int .i64 l.fin.lo.x,.int .i64 l.fin.lo.y,.int .i64 l.fin.hi.x,.int .i64 l.fin.hi.y,.int .i64 l.bans]∧Bk w1 (w.heap.size+1) 57 #[.int .i64 r.lv,.int .i64 r.pl,.int .i64 r.sc,.slice A2 r.ins.length c2,.slice A3 r.hs.length c3,.int .i64 r.tag]:=by refine⟨Bk.later ?_ hb1,Bk.later ?_ hb1⟩<;>(repeat first|(with_reducible first|assumption|exact kN _ _ _ (by first|assumption|simp<;>omega)|refine kA ?_ _|refine kD ?_|refine kW ?_ _|apply Bk.set'|refine kF ?_ (by simp<;>omega) _)|exact⟨by with_reducible rfl⟩|exact⟨by simp⟩)
  have y1:=d1.size
  have zP1:=P1.lt
  clear hb1
  obtain⟨⟨l0,l1,l2,l3,l4,l5,l6,l7,l8,l9,l10⟩,lf⟩:=L1.c11
  obtain⟨⟨p0,p1,p2,p3,p4,p5⟩,pf⟩:=P1.c6
  go_wp2_with fail
  refine(ZH l A A' c c' _ (h.below (by(with_reducible repeat first|assumption|apply bl0|apply blA|apply blD|apply blN|refine blF ?_ ‹_›|(apply blS;(simp<;>omega))))) (hg.below (by(with_reducible repeat first|assumption|apply bl0|apply blA|apply blD|apply blN|refine blF ?_ ‹_›|(apply blS;(simp<;>omega))))) hn1 hn2).mono ?_
  rw[hL]
  rintro e1 w2 ⟨rfl,hb2⟩
  have d2:Below w.heap.size w w2:=Qa (by(with_reducible repeat first|assumption|apply bl0|apply blA|apply blD|apply blN|refine blF ?_ ‹_›|(apply blS;(simp<;>omega)))) hb2
  obtain⟨L2,P2⟩:Bk w2 w.heap.size 42 #[.int .i64 l.id,.int .i64 l.ticks,.int .i64 l.start.x,.int .i64 l.start.y,.slice A l.walls.length c,.slice A' l.gates.length c',.int .i64 l.fin.lo.x,.int .i64 l.fin.lo.y,.int .i64 l.fin.hi.x,.int .i64 l.fin.hi.y,.int .i64 l.bans]∧Bk w2 (w.heap.size+1) 57 #[.int .i64 r.lv,.int .i64 r.pl,.int .i64 r.sc,.slice A2 r.ins.length c2,.slice A3 r.hs.length c3,.int .i64 r.tag]:=by refine⟨Bk.later ?_ hb2,Bk.later ?_ hb2⟩<;>(repeat first|(with_reducible first|assumption|exact kN _ _ _ (by first|assumption|simp<;>omega)|refine kA ?_ _|refine kD ?_|refine kW ?_ _|apply Bk.set'|refine kF ?_ (by simp<;>omega) _)|exact⟨by with_reducible rfl⟩|exact⟨by simp⟩)
  have y2:=d2.size
  have zP2:=P2.lt
  clear hb2 L1 P1 d1 zP1 y1 l0 l1 l2 l3 l4 l5 l6 l7 l8 l9 l10 lf p0 p1 p2 p3 p4 p5 pf
  obtain⟨⟨l0,l1,l2,l3,l4,l5,l6,l7,l8,l9,l10⟩,lf⟩:=L2.c11
  obtain⟨⟨p0,p1,p2,p3,p4,p5⟩,pf⟩:=P2.c6
  go_wp2
  go_ret
  exact⟨rfl,by(with_reducible repeat first|assumption|apply bl0|apply blA|apply blD|apply blN|refine blF ?_ ‹_›|(apply blS;(simp<;>omega)))⟩
 have hT:Xy l r=(if 0≤QC l r.ins then QC l r.ins else if Zn l r.ins r.hs then repF l r.ins r.hs else -1):=by unfold Xy;rw[hv,hL,hid];rfl
 rw[hT]
 clear hT
 obtain⟨lx,hlx⟩: ∃lx,QC l r.ins=lx:=⟨_,rfl⟩
 have HLX:=Lib.hid hlx
 rw[hlx]
 clear hlx
 by_cases hge:0≤lx
 ·rw[if_pos hge]
  go_enter Sq.func18, Tryz.ntmps18
  go_wp2_with fail
  refine(XR A2 A3 c2 c3 r _ (hs.below (by(with_reducible repeat first|assumption|apply bl0|apply blA|apply blD|apply blN|refine blF ?_ ‹_›|(apply blS;(simp<;>omega))))) (hs'.below (by(with_reducible repeat first|assumption|apply bl0|apply blA|apply blD|apply blN|refine blF ?_ ‹_›|(apply blS;(simp<;>omega))))) hn3 hn4).mono ?_
  rw[hv]
  rintro e1 w1 ⟨rfl,hb1⟩
  have d1:Below w.heap.size w w1:=Qa (by(with_reducible repeat first|assumption|apply bl0|apply blA|apply blD|apply blN|refine blF ?_ ‹_›|(apply blS;(simp<;>omega)))) hb1
  obtain⟨L1,P1⟩:Bk w1 w.heap.size 42 #[.int .i64 l.id,.int .i64 l.ticks,.int .i64 l.start.x,.int .i64 l.start.y,.slice A l.walls.length c,.slice A' l.gates.length c',.int .i64 l.fin.lo.x,.int .i64 l.fin.lo.y,.int .i64 l.fin.hi.x,.int .i64 l.fin.hi.y,.int .i64 l.bans]∧Bk w1 (w.heap.size+1) 57 #[.int .i64 r.lv,.int .i64 r.pl,.int .i64 r.sc,.slice A2 r.ins.length c2,.slice A3 r.hs.length c3,.int .i64 r.tag]:=by refine⟨Bk.later ?_ hb1,Bk.later ?_ hb1⟩<;>(repeat first|(with_reducible first|assumption|exact kN _ _ _ (by first|assumption|simp<;>omega)|refine kA ?_ _|refine kD ?_|refine kW ?_ _|apply Bk.set'|refine kF ?_ (by simp<;>omega) _)|exact⟨by with_reducible rfl⟩|exact⟨by simp⟩)
  have y1:=d1.size
  have zP1:=P1.lt
  clear hb1
  obtain⟨⟨l0,l1,l2,l3,l4,l5,l6,l7,l8,l9,l10⟩,lf⟩:=L1.c11
  obtain⟨⟨p0,p1,p2,p3,p4,p5⟩,pf⟩:=P1.c6
  go_wp2_with fail
  refine(ZH l A A' c c' _ (h.below (by(with_reducible repeat first|assumption|apply bl0|apply blA|apply blD|apply blN|refine blF ?_ ‹_›|(apply blS;(simp<;>omega))))) (hg.below (by(with_reducible repeat first|assumption|apply bl0|apply blA|apply blD|apply blN|refine blF ?_ ‹_›|(apply blS;(simp<;>omega))))) hn1 hn2).mono ?_
  rw[hL]
  rintro e1 w2 ⟨rfl,hb2⟩
  have d2:Below w.heap.size w w2:=Qa (by(with_reducible repeat first|assumption|apply bl0|apply blA|apply blD|apply blN|refine blF ?_ ‹_›|(apply blS;(simp<;>omega)))) hb2
  obtain⟨L2,P2⟩:Bk w2 w.heap.size 42 #[.int .i64 l.id,.int .i64 l.ticks,.int .i64 l.start.x,.int .i64 l.start.y,.slice A l.walls.length c,.slice A' l.gates.length c',.int .i64 l.fin.lo.x,.int .i64 l.fin.lo.y,.int .i64 l.fin.hi.x,.int .i64 l.fin.hi.y,.int .i64 l.bans]∧Bk w2 (w.heap.size+1) 57 #[.int .i64 r.lv,.int .i64 r.pl,.int .i64 r.sc,.slice A2 r.ins.length c2,.slice A3 r.hs.length c3,.int .i64 r.tag]:=by refine⟨Bk.later ?_ hb2,Bk.later ?_ hb2⟩<;>(repeat first|(with_reducible first|assumption|exact kN _ _ _ (by first|assumption|simp<;>omega)|refine kA ?_ _|refine kD ?_|refine kW ?_ _|apply Bk.set'|refine kF ?_ (by simp<;>omega) _)|exact⟨by with_reducible rfl⟩|exact⟨by simp⟩)
  have y2:=d2.size
  have zP2:=P2.lt
  clear hb2 L1 P1 d1 zP1 y1 l0 l1 l2 l3 l4 l5 l6 l7 l8 l9 l10 lf p0 p1 p2 p3 p4 p5 pf
  obtain⟨⟨l0,l1,l2,l3,l4,l5,l6,l7,l8,l9,l10⟩,lf⟩:=L2.c11
  obtain⟨⟨p0,p1,p2,p3,p4,p5⟩,pf⟩:=P2.c6
  go_wp2_with fail
  refine(Qa7 l r.ins A A' A2 c c' c2 _ (hs.below (by(with_reducible repeat first|assumption|apply bl0|apply blA|apply blD|apply blN|refine blF ?_ ‹_›|(apply blS;(simp<;>omega))))) hn3 (by omega) (by omega)).mono ?_
  rw[HLX.out]
  rintro e1 w3 ⟨rfl,hb3⟩
  have d3:Below w.heap.size w w3:=Qa (by(with_reducible repeat first|assumption|apply bl0|apply blA|apply blD|apply blN|refine blF ?_ ‹_›|(apply blS;(simp<;>omega)))) hb3
  obtain⟨L3,P3⟩:Bk w3 w.heap.size 42 #[.int .i64 l.id,.int .i64 l.ticks,.int .i64 l.start.x,.int .i64 l.start.y,.slice A l.walls.length c,.slice A' l.gates.length c',.int .i64 l.fin.lo.x,.int .i64 l.fin.lo.y,.int .i64 l.fin.hi.x,.int .i64 l.fin.hi.y,.int .i64 l.bans]∧Bk w3 (w.heap.size+1) 57 #[.int .i64 r.lv,.int .i64 r.pl,.int .i64 r.sc,.slice A2 r.ins.length c2,.slice A3 r.hs.length c3,.int .i64 r.tag]:=by refine⟨Bk.later ?_ hb3,Bk.later ?_ hb3⟩<;>(repeat first|(with_reducible first|assumption|exact kN _ _ _ (by first|assumption|simp<;>omega)|refine kA ?_ _|refine kD ?_|refine kW ?_ _|apply Bk.set'|refine kF ?_ (by simp<;>omega) _)|exact⟨by with_reducible rfl⟩|exact⟨by simp⟩)
  have y3:=d3.size
  have zP3:=P3.lt
  clear hb3 L2 P2 d2 zP2 y2 l0 l1 l2 l3 l4 l5 l6 l7 l8 l9 l10 lf p0 p1 p2 p3 p4 p5 pf
  obtain⟨⟨l0,l1,l2,l3,l4,l5,l6,l7,l8,l9,l10⟩,lf⟩:=L3.c11
  obtain⟨⟨p0,p1,p2,p3,p4,p5⟩,pf⟩:=P3.c6
  go_wp2_with fail
  refine(Qa7 l r.ins A A' A2 c c' c2 _ (hs.below (by(with_reducible repeat first|assumption|apply bl0|apply blA|apply blD|apply blN|refine blF ?_ ‹_›|(apply blS;(simp<;>omega))))) hn3 (by omega) (by omega)).mono ?_
  rw[HLX.out]
  rintro e1 w4 ⟨rfl,hb4⟩
  have d4:Below w.heap.size w w4:=Qa (by(with_reducible repeat first|assumption|apply bl0|apply blA|apply blD|apply blN|refine blF ?_ ‹_›|(apply blS;(simp<;>omega)))) hb4
  obtain⟨L4,P4⟩:Bk w4 w.heap.size 42 #[.int .i64 l.id,.int .i64 l.ticks,.int .i64 l.start.x,.int .i64 l.start.y,.slice A l.walls.length c,.slice A' l.gates.length c',.int .i64 l.fin.lo.x,.int .i64 l.fin.lo.y,.int .i64 l.fin.hi.x,.int .i64 l.fin.hi.y,.int .i64 l.bans]∧Bk w4 (w.heap.size+1) 57 #[.int .i64 r.lv,.int .i64 r.pl,.int .i64 r.sc,.slice A2 r.ins.length c2,.slice A3 r.hs.length c3,.int .i64 r.tag]:=by refine⟨Bk.later ?_ hb4,Bk.later ?_ hb4⟩<;>(repeat first|(with_reducible first|assumption|exact kN _ _ _ (by first|assumption|simp<;>omega)|refine kA ?_ _|refine kD ?_|refine kW ?_ _|apply Bk.set'|refine kF ?_ (by simp<;>omega) _)|exact⟨by with_reducible rfl⟩|exact⟨by simp⟩)
  have y4:=d4.size
  have zP4:=P4.lt
  clear hb4 L3 P3 d3 zP3 y3 l0 l1 l2 l3 l4 l5 l6 l7 l8 l9 l10 lf p0 p1 p2 p3 p4 p5 pf
  obtain⟨⟨l0,l1,l2,l3,l4,l5,l6,l7,l8,l9,l10⟩,lf⟩:=L4.c11
  obtain⟨⟨p0,p1,p2,p3,p4,p5⟩,pf⟩:=P4.c6
  go_wp2
  go_ret
  exact⟨rfl,by(with_reducible repeat first|assumption|apply bl0|apply blA|apply blD|apply blN|refine blF ?_ ‹_›|(apply blS;(simp<;>omega)))⟩
 rw[if_neg hge]
 obtain⟨ro,hro⟩: ∃ro,Zn l r.ins r.hs=ro:=⟨_,rfl⟩
 obtain⟨rk,hrk⟩: ∃rk,repK l r.ins r.hs=rk:=⟨_,rfl⟩
 obtain⟨rf,hrf⟩: ∃rf,repF l r.ins r.hs=rf:=⟨_,rfl⟩
 obtain⟨rt,hrt⟩: ∃rt,repT l r.ins r.hs=rt:=⟨_,rfl⟩
 rw[hro,hrf]
 have HRO:=Lib.hid hro
 have HRK:=Lib.hid hrk
 have HRF:=Lib.hid hrf
 have HRT:=Lib.hid hrt
 clear hro hrk hrf hrt
 go_enter Sq.func18, Tryz.ntmps18
 go_wp2_with fail
 refine(XR A2 A3 c2 c3 r _ (hs.below (by(with_reducible repeat first|assumption|apply bl0|apply blA|apply blD|apply blN|refine blF ?_ ‹_›|(apply blS;(simp<;>omega))))) (hs'.below (by(with_reducible repeat first|assumption|apply bl0|apply blA|apply blD|apply blN|refine blF ?_ ‹_›|(apply blS;(simp<;>omega))))) hn3 hn4).mono ?_
 rw[hv]
 rintro e1 w1 ⟨rfl,hb1⟩
 have d1:Below w.heap.size w w1:=Qa (by(with_reducible repeat first|assumption|apply bl0|apply blA|apply blD|apply blN|refine blF ?_ ‹_›|(apply blS;(simp<;>omega)))) hb1
 obtain⟨L1,P1⟩:Bk w1 w.heap.size 42 #[.int .i64 l.id,.int .i64 l.ticks,.int .i64 l.start.x,.int .i64 l.start.y,.slice A l.walls.length c,.slice A' l.gates.length c',.int .i64 l.fin.lo.x,.int .i64 l.fin.lo.y,.int .i64 l.fin.hi.x,.int .i64 l.fin.hi.y,.int .i64 l.bans]∧Bk w1 (w.heap.size+1) 57 #[.int .i64 r.lv,.int .i64 r.pl,.int .i64 r.sc,.slice A2 r.ins.length c2,.slice A3 r.hs.length c3,.int .i64 r.tag]:=by refine⟨Bk.later ?_ hb1,Bk.later ?_ hb1⟩<;>(repeat first|(with_reducible first|assumption|exact kN _ _ _ (by first|assumption|simp<;>omega)|refine kA ?_ _|refine kD ?_|refine kW ?_ _|apply Bk.set'|refine kF ?_ (by simp<;>omega) _)|exact⟨by with_reducible rfl⟩|exact⟨by simp⟩)
 have y1:=d1.size
 have zP1:=P1.lt
 clear hb1
 obtain⟨⟨l0,l1,l2,l3,l4,l5,l6,l7,l8,l9,l10⟩,lf⟩:=L1.c11
 obtain⟨⟨p0,p1,p2,p3,p4,p5⟩,pf⟩:=P1.c6
 go_wp2_with fail
 refine(ZH l A A' c c' _ (h.below (by(with_reducible repeat first|assumption|apply bl0|apply blA|apply blD|apply blN|refine blF ?_ ‹_›|(apply blS;(simp<;>omega))))) (hg.below (by(with_reducible repeat first|assumption|apply bl0|apply blA|apply blD|apply blN|refine blF ?_ ‹_›|(apply blS;(simp<;>omega))))) hn1 hn2).mono ?_
 rw[hL]
 rintro e1 w2 ⟨rfl,hb2⟩
 have d2:Below w.heap.size w w2:=Qa (by(with_reducible repeat first|assumption|apply bl0|apply blA|apply blD|apply blN|refine blF ?_ ‹_›|(apply blS;(simp<;>omega)))) hb2
 obtain⟨L2,P2⟩:Bk w2 w.heap.size 42 #[.int .i64 l.id,.int .i64 l.ticks,.int .i64 l.start.x,.int .i64 l.start.y,.slice A l.walls.length c,.slice A' l.gates.length c',.int .i64 l.fin.lo.x,.int .i64 l.fin.lo.y,.int .i64 l.fin.hi.x,.int .i64 l.fin.hi.y,.int .i64 l.bans]∧Bk w2 (w.heap.size+1) 57 #[.int .i64 r.lv,.int .i64 r.pl,.int .i64 r.sc,.slice A2 r.ins.length c2,.slice A3 r.hs.length c3,.int .i64 r.tag]:=by refine⟨Bk.later ?_ hb2,Bk.later ?_ hb2⟩<;>(repeat first|(with_reducible first|assumption|exact kN _ _ _ (by first|assumption|simp<;>omega)|refine kA ?_ _|refine kD ?_|refine kW ?_ _|apply Bk.set'|refine kF ?_ (by simp<;>omega) _)|exact⟨by with_reducible rfl⟩|exact⟨by simp⟩)
 have y2:=d2.size
 have zP2:=P2.lt
 clear hb2 L1 P1 d1 zP1 y1 l0 l1 l2 l3 l4 l5 l6 l7 l8 l9 l10 lf p0 p1 p2 p3 p4 p5 pf
 obtain⟨⟨l0,l1,l2,l3,l4,l5,l6,l7,l8,l9,l10⟩,lf⟩:=L2.c11
 obtain⟨⟨p0,p1,p2,p3,p4,p5⟩,pf⟩:=P2.c6
 go_wp2_with fail
 refine(Qa7 l r.ins A A' A2 c c' c2 _ (hs.below (by(with_reducible repeat first|assumption|apply bl0|apply blA|apply blD|apply blN|refine blF ?_ ‹_›|(apply blS;(simp<;>omega))))) hn3 (by omega) (by omega)).mono ?_
 rw[HLX.out]
 rintro e1 w3 ⟨rfl,hb3⟩
 have d3:Below w.heap.size w w3:=Qa (by(with_reducible repeat first|assumption|apply bl0|apply blA|apply blD|apply blN|refine blF ?_ ‹_›|(apply blS;(simp<;>omega)))) hb3
 obtain⟨L3,P3⟩:Bk w3 w.heap.size 42 #[.int .i64 l.id,.int .i64 l.ticks,.int .i64 l.start.x,.int .i64 l.start.y,.slice A l.walls.length c,.slice A' l.gates.length c',.int .i64 l.fin.lo.x,.int .i64 l.fin.lo.y,.int .i64 l.fin.hi.x,.int .i64 l.fin.hi.y,.int .i64 l.bans]∧Bk w3 (w.heap.size+1) 57 #[.int .i64 r.lv,.int .i64 r.pl,.int .i64 r.sc,.slice A2 r.ins.length c2,.slice A3 r.hs.length c3,.int .i64 r.tag]:=by refine⟨Bk.later ?_ hb3,Bk.later ?_ hb3⟩<;>(repeat first|(with_reducible first|assumption|exact kN _ _ _ (by first|assumption|simp<;>omega)|refine kA ?_ _|refine kD ?_|refine kW ?_ _|apply Bk.set'|refine kF ?_ (by simp<;>omega) _)|exact⟨by with_reducible rfl⟩|exact⟨by simp⟩)
 have y3:=d3.size
 have zP3:=P3.lt
 clear hb3 L2 P2 d2 zP2 y2 l0 l1 l2 l3 l4 l5 l6 l7 l8 l9 l10 lf p0 p1 p2 p3 p4 p5 pf
 obtain⟨⟨l0,l1,l2,l3,l4,l5,l6,l7,l8,l9,l10⟩,lf⟩:=L3.c11
 obtain⟨⟨p0,p1,p2,p3,p4,p5⟩,pf⟩:=P3.c6
 go_wp2_with fail
 refine(QdZ l r.ins r.hs A A' A2 A3 c c' c2 c3 _ (h.below (by(with_reducible repeat first|assumption|apply bl0|apply blA|apply blD|apply blN|refine blF ?_ ‹_›|(apply blS;(simp<;>omega))))) (hg.below (by(with_reducible repeat first|assumption|apply bl0|apply blA|apply blD|apply blN|refine blF ?_ ‹_›|(apply blS;(simp<;>omega))))) hn1 hn2 (hs.below (by(with_reducible repeat first|assumption|apply bl0|apply blA|apply blD|apply blN|refine blF ?_ ‹_›|(apply blS;(simp<;>omega))))) (by omega) (hs'.below (by(with_reducible repeat first|assumption|apply bl0|apply blA|apply blD|apply blN|refine blF ?_ ‹_›|(apply blS;(simp<;>omega))))) (by omega)).mono ?_
 unfold Xd
 rw[HRK.out,HRF.out,HRT.out,HRO.out]
 rintro e1 w5 ⟨rfl,hb5⟩
 have d5:Below w.heap.size w w5:=Qa (by(with_reducible repeat first|assumption|apply bl0|apply blA|apply blD|apply blN|refine blF ?_ ‹_›|(apply blS;(simp<;>omega)))) hb5
 clear hb5 L3 P3 d3 l0 l1 l2 l3 l4 l5 l6 l7 l8 l9 l10 lf p0 p1 p2 p3 p4 p5 pf
 have y5:=d5.size
 cases ro
 ·go_wp2
  go_ret
  exact⟨rfl,by(with_reducible repeat first|assumption|apply bl0|apply blA|apply blD|apply blN|refine blF ?_ ‹_›|(apply blS;(simp<;>omega)))⟩
 ·go_wp2
  go_ret
  exact⟨rfl,by(with_reducible repeat first|assumption|apply bl0|apply blA|apply blD|apply blN|refine blF ?_ ‹_›|(apply blS;(simp<;>omega)))⟩
end Go.Proofs.YtpmjcjoeckajgaaGreat
