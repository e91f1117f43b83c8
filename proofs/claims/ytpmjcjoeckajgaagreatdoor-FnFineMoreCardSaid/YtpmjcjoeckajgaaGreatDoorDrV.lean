/- Draws of verdicts: DrawVerifyReplay, DrawVerifyTick. (Round C) -/
import Derived.Test.YtpmjcjoeckajgaaGreatDoorDrW
import Derived.Test.YtpmjcjoeckajgaaGreatDoorDrG
import Derived.Test.YtpmjcjoeckajgaaGreatDoorDrH
import Derived.Test.YtpmjcjoeckajgaaGreatDoorZDrawL
import Derived.Test.YtpmjcjoeckajgaaGreatDoorVerT
import Derived.Test.YtpmjcjoeckajgaaGreatDoorRunQ
import Derived.Test.YtpmjcjoeckajgaaGreatDoorMkL
namespace Go.Proofs.YtpmjcjoeckajgaaGreatDoor
open Go.ChangeShapes Go.WideShapes Go.ChangeAt Go.RowKit
structure Qx(l:Lev)(A A':Option Addr)(c c':Nat)(r:Rep)(A2 A3:Option Addr)(c2 c3:Nat)(w:World):Prop where
 nw:l.walls.length≤10
 ng:l.gates.length≤10
 W:Sl w 4 Qc A l.walls.length l.walls
 G:Sl w 4 Qc A' l.gates.length l.gates
 e:A=none→c=0
 e':A'=none→c'=0
 P:LieP r
 I:Sl w 3 Qd A2 r.ins.length r.ins
 H:Sl w 1 Qe A3 r.hs.length r.hs
 ci:r.ins.length≤c2
 ch:r.hs.length≤c3
 e2:A2=none→c2=0
 e3:A3=none→c3=0
theorem Qx.below{l:Lev}{A A':Option Addr}{c c':Nat}{r:Rep}{A2 A3:Option Addr}{c2 c3:Nat}{w w':World}(h:Qx l A A' c c' r A2 A3 c2 c3 w)(hb:Below w.heap.size w w'):Qx l A A' c c' r A2 A3 c2 c3 w':=
 ⟨h.nw,h.ng,h.W.below hb,h.G.below hb,h.e,h.e',h.P,h.I.below hb,h.H.below hb,h.ci,h.ch,h.e2,h.e3⟩
theorem Qx.alloc{l:Lev}{A A':Option Addr}{c c':Nat}{r:Rep}{A2 A3:Option Addr}{c2 c3:Nat}{w:World}(h:Qx l A A' c c' r A2 A3 c2 c3 w)(o:Obj):Qx l A A' c c' r A2 A3 c2 c3 (w.alloc o):=h.below (Qf (Below.refl _ _) o)
theorem Qx.drew{l:Lev}{A A':Option Addr}{c c':Nat}{r:Rep}{A2 A3:Option Addr}{c2 c3:Nat}{w:World}(h:Qx l A A' c c' r A2 A3 c2 c3 w):Qx l A A' c c' r A2 A3 c2 c3 w.drew:=h.below (Qw (Below.refl _ _))
def Qmv(w:World)(e:Ending)(w':World):Prop:=∃l A A' c c' key r A2 c2 A3 c3,e= .returned (.tuple #[.agg #[.int .i64 l.id,.int .i64 l.ticks,.int .i64 l.start.x,.int .i64 l.start.y,.slice A l.walls.length c,.slice A' l.gates.length c',.int .i64 l.fin.lo.x,.int .i64 l.fin.lo.y,.int .i64 l.fin.hi.x,.int .i64 l.fin.hi.y,.int .i64 l.bans],.int .i64 key,.agg #[.int .i64 r.lv,.int .i64 r.pl,.int .i64 r.sc,.slice A2 r.ins.length c2,.slice A3 r.hs.length c3,.int .i64 r.tag]])∧Qx l A A' c c' r A2 A3 c2 c3 w'∧(-1≤key∧key≤10000)∧((∀a,A=some a→w.heap.size≤a.block)∧(∀a,A'=some a→w.heap.size≤a.block)∧(∀a,A2=some a→w.heap.size≤a.block)∧(∀a,A3=some a→w.heap.size≤a.block))∧Below w.heap.size w w'
structure VrS(R n M:Nat)(l:Lev)(A:Option Addr)(c:Nat)(A':Option Addr)(c':Nat)(r:Rep)(A2:Option Addr)(c2:Nat)(A3:Option Addr)(c3:Nat)(w u:World):Prop where
 L:Bk u M 29 #[.int .i64 l.id,.int .i64 l.ticks,.int .i64 l.start.x,.int .i64 l.start.y,.slice A l.walls.length c,.slice A' l.gates.length c',.int .i64 l.fin.lo.x,.int .i64 l.fin.lo.y,.int .i64 l.fin.hi.x,.int .i64 l.fin.hi.y,.int .i64 l.bans]
 X:Bk u (M+1) 33 #[.int .i64 r.lv,.int .i64 r.pl,.int .i64 r.sc,.slice A2 r.ins.length c2,.slice A3 r.hs.length c3,.int .i64 r.tag]
 Z:Bk u w.heap.size 29 #[.int .i64 0,.int .i64 0,.int .i64 0,.int .i64 0,.slice none 0 0,.slice none 0 0,.int .i64 0,.int .i64 0,.int .i64 0,.int .i64 0,.int .i64 0]
 Y:Bk u (w.heap.size+1) 33 #[.int .i64 0,.int .i64 0,.int .i64 0,.slice none 0 0,.slice none 0 0,.int .i64 0]
 W:Own u (R+1) 27 4 Qc (.slice A l.walls.length c) l.walls
 G:Own u (R+1) 27 4 Qc (.slice A' l.gates.length c') l.gates
 I:Own u (R+1) 39 3 Qd (.slice A2 r.ins.length c2) r.ins
 H:Own u (R+1) 3 1 Qe (.slice A3 r.hs.length c3) r.hs
 r:RdL u R n
 d:Below w.heap.size w u
 m:w.heap.size+1<R∧R<M
 p:LevD l
theorem VrS.rd{R n m M:Nat}{l:Lev}{A:Option Addr}{c:Nat}{A':Option Addr}{c':Nat}{r:Rep}{A2:Option Addr}{c2:Nat}{A3:Option Addr}{c3:Nat}{w u u':World}(h:VrS R n M l A c A' c' r A2 c2 A3 c3 w u)(hg:u.grownBy u' (some R))(hr:RdL u' R m):VrS R m M l A c A' c' r A2 c2 A3 c3 w u':=by
 have hm:=h.m
 exact⟨h.L.grown hg (by intro e;injection e;omega),h.X.grown hg (by intro e;injection e;omega),h.Z.grown hg (by intro e;injection e;omega),h.Y.grown hg (by intro e;injection e;omega),h.W.gk hg (by omega),h.G.gk hg (by omega),h.I.gk hg (by omega),h.H.gk hg (by omega),hr,h.d.grown hg h.d.size (fun k e=>by cases e;omega),h.m,h.p⟩
theorem VrS.later{R n M:Nat}{l:Lev}{A:Option Addr}{c:Nat}{A':Option Addr}{c':Nat}{r:Rep}{A2:Option Addr}{c2:Nat}{A3:Option Addr}{c3:Nat}{w u u':World}(h:VrS R n M l A c A' c' r A2 c2 A3 c3 w u)(hb:Below u.heap.size u u'):VrS R n M l A c A' c' r A2 c2 A3 c3 w u':=
 ⟨h.L.later hb,h.X.later hb,h.Z.later hb,h.Y.later hb,h.W.later hb,h.G.later hb,h.I.later hb,h.H.later hb,h.r.later hb,Qa h.d hb,h.m,h.p⟩
theorem VrS.more{R n m M:Nat}{l:Lev}{A:Option Addr}{c:Nat}{A':Option Addr}{c':Nat}{r:Rep}{A2:Option Addr}{c2:Nat}{A3:Option Addr}{c3:Nat}{w u:World}(h:VrS R n M l A c A' c' r A2 c2 A3 c3 w u)(hm:n≤m):VrS R m M l A c A' c' r A2 c2 A3 c3 w u:=
 ⟨h.L,h.X,h.Z,h.Y,h.W,h.G,h.I,h.H,h.r.more hm,h.d,h.m,h.p⟩
set_option maxRecDepth 100000 in
set_option maxHeartbeats 8000000 in
theorem QfN(A:Option Addr)(n c:Nat)(l:List Int)(w:World)(h:Sl w 1 QD A n l)(hl: ∀x∈l,0≤x∧x<256)(hn:n≤9223372036854775807)(hnc:n≤c)(hc:c≤9223372036854775807):
 Calls Sq.prog 10 #[.slice A n c] w (Qmv w):=by
 go_enter Sq.func10, Tryz.ntmps10
 go_wp2_with fail
 refine(QaK A n c l _ (h.below (by(with_reducible repeat first|assumption|apply bl0|apply blA|apply blD|apply blN|refine blF ?_ ‹_›|(apply blS;(simp<;>omega))))) hl hn hnc hc).mono ?_
 rintro e w1 ⟨R,rfl,hRw,hR1,hb1⟩
 simp only[World.size_alloc] at hRw
 have hRl:=hR1.lt
 obtain⟨Z1,Y1⟩:Bk w1 w.heap.size 29 #[.int .i64 0,.int .i64 0,.int .i64 0,.int .i64 0,.slice none 0 0,.slice none 0 0,.int .i64 0,.int .i64 0,.int .i64 0,.int .i64 0,.int .i64 0]∧Bk w1 (w.heap.size+1) 33 #[.int .i64 0,.int .i64 0,.int .i64 0,.slice none 0 0,.slice none 0 0,.int .i64 0]:=by refine⟨Bk.later ?_ hb1,Bk.later ?_ hb1⟩<;>(repeat first|(with_reducible first|assumption|exact kN _ _ _ (by simp)|refine kA ?_ _|refine kD ?_|refine kW ?_ _|apply Bk.set'|refine kF ?_ (by simp<;>omega) _|refine kL ?_ ‹_›|refine kG ?_ ‹_› (by first|omega|simp<;>omega))|exact⟨by with_reducible rfl⟩|exact⟨by simp⟩)
 have d1:Below w.heap.size w w1:=Qa (by(with_reducible repeat first|assumption|apply bl0|apply blA|apply blD|apply blN|refine blF ?_ ‹_›|(apply blS;(simp<;>omega)))) hb1
 clear hb1 h
 go_wp2_with fail
 refine(Qjn R 0 _ hR1 (by omega)).mono ?_
 rintro e w2 ⟨lv,B,k,B',k',key,r,A2,c2,A3,c3,rfl,hP,hk0,hk1,hok,hW,hG,hI,hH,hR2,hg2⟩
 obtain⟨M,hM⟩: ∃M,w2.heap.size=M:=⟨_,rfl⟩
 have y2:=hg2.size
 have S2:VrS R 600 M lv B k B' k' r A2 c2 A3 c3 w ((w2.alloc (.cells #[.int .i64 lv.id,.int .i64 lv.ticks,.int .i64 lv.start.x,.int .i64 lv.start.y,.slice B lv.walls.length k,.slice B' lv.gates.length k',.int .i64 lv.fin.lo.x,.int .i64 lv.fin.lo.y,.int .i64 lv.fin.hi.x,.int .i64 lv.fin.hi.y,.int .i64 lv.bans] 29)).alloc (.cells #[.int .i64 r.lv,.int .i64 r.pl,.int .i64 r.sc,.slice A2 r.ins.length c2,.slice A3 r.hs.length c3,.int .i64 r.tag] 33)):=
  ⟨(Bk.new _ _ _ hM).alloc _,Bk.new _ _ _ (by simp[hM]),((Z1.grown hg2 (by intro e;injection e;omega)).alloc _).alloc _,((Y1.grown hg2 (by intro e;injection e;omega)).alloc _).alloc _,
   ((hW.mono (by omega)).alloc _).alloc _,((hG.mono (by omega)).alloc _).alloc _,((hI.mono (by omega)).alloc _).alloc _,((hH.mono (by omega)).alloc _).alloc _,((hR2.more (by omega)).alloc _).alloc _,Qf (Qf (d1.grown hg2 d1.size (fun k e=>by cases e;omega)) _) _,⟨by omega,by omega⟩,hP⟩
 have hlie:=LieP.of_ok hok
 have hsz:=QgE hok
 have HOK:=Lib.hid hlie
 have hkb: -1≤key∧key≤10000:=by omega
 clear Z1 Y1 d1 hW hG hI hH hR2 hg2 hR1 hP hok hlie
 go_wp2_with fail
 generalize ((w2.alloc (.cells #[.int .i64 lv.id,.int .i64 lv.ticks,.int .i64 lv.start.x,.int .i64 lv.start.y,.slice B lv.walls.length k,.slice B' lv.gates.length k',.int .i64 lv.fin.lo.x,.int .i64 lv.fin.lo.y,.int .i64 lv.fin.hi.x,.int .i64 lv.fin.hi.y,.int .i64 lv.bans] 29)).alloc (.cells #[.int .i64 r.lv,.int .i64 r.pl,.int .i64 r.sc,.slice A2 r.ins.length c2,.slice A3 r.hs.length c3,.int .i64 r.tag] 33))=w3 at*
 refine(Qz R 600 2 _ S2.r (by omega) (by omega) (by omega)).mono ?_
 rintro e w4 ⟨p,rfl,p0,p1,hR4,hg4⟩
 have S4:=S2.rd hg4 hR4
 clear S2 hg4 hR4
 go_upto_if 19 with fail
 go_cut [] from 9 (fun wc=>∃(r2:Rep) (B1:Option Addr) (d1:Nat) (B2:Option Addr) (d2:Nat),LieP r2∧VrS R 700 M lv B k B' k' r2 B1 d1 B2 d2 w wc)
 case first=>
  have hmm:=S4.m
  obtain⟨⟨b0,b1,b2,b3,b4,b5⟩,bf⟩:=S4.X.c6
  have zX:=S4.X.lt
  by_cases q:p=0
  ·subst q
   have IH:=S4.I.sl' Qh
   have HH:=S4.H.sl' Qi
   have n2:=S4.I.none_cap
   have n3:=S4.H.none_cap
   go_wp2_with fail
   refine(Qjo r key A2 A3 c2 c3 R (600+1) _ S4.r (by omega) HOK.out (by omega) IH HH n2 n3 (by omega) (by omega)).mono ?_
   rintro e w5 ⟨r2,B1,d1,B2,d2,rfl,hL2,hI2,hH2,hR5,hg5⟩
   have S5:=S4.rd hg5 hR5
   have zX5:=S5.X.lt
   have I5:Own w5 (R+1) 39 3 Qd (.slice B1 r2.ins.length d1) r2.ins:=hI2.mono (by omega)
   have H5:Own w5 (R+1) 3 1 Qe (.slice B2 r2.hs.length d2) r2.hs:=hH2.mono (by omega)
   have fI:=I5.ne S5.X (by decide)
   have fH:=H5.ne S5.X (by decide)
   have fW:=S5.W.ne S5.X (by decide)
   have fG:=S5.G.ne S5.X (by decide)
   obtain⟨sL,sX,sZ,sY,sW,sG, -, -,sr,sd,sm,sp⟩:=S5
   have f1:M≠M+1:=by omega
   have f2:w.heap.size≠M+1:=by omega
   have f3:w.heap.size+1≠M+1:=by omega
   have f4:R<M+1:=by omega
   have HL2:=Lib.hid hL2
   clear S4 hI2 hH2 hR5 hg5 IH HH b0 b1 b2 b3 b4 b5 bf hL2
   obtain⟨⟨x0,x1,x2,x3,x4,x5⟩,xf⟩:=sX.c6
   go_wp2_with fail
   go_meet
   exact⟨r2,B1,d1,B2,d2,HL2.out,by(repeat first|(with_reducible first|assumption|exact kN _ _ _ (by simp)|refine kA ?_ _|refine kD ?_|refine kW ?_ _|apply Bk.set'|refine kF ?_ (by simp<;>omega) _|refine kL ?_ ‹_›|refine kG ?_ ‹_› (by first|omega|simp<;>omega))|exact⟨by with_reducible rfl⟩|exact⟨by simp⟩),by(repeat first|(with_reducible first|assumption|exact kN _ _ _ (by simp)|refine kA ?_ _|refine kD ?_|refine kW ?_ _|apply Bk.set'|refine kF ?_ (by simp<;>omega) _|refine kL ?_ ‹_›|refine kG ?_ ‹_› (by first|omega|simp<;>omega))|exact⟨by with_reducible rfl⟩|exact⟨by simp⟩),by(repeat first|(with_reducible first|assumption|exact kN _ _ _ (by simp)|refine kA ?_ _|refine kD ?_|refine kW ?_ _|apply Bk.set'|refine kF ?_ (by simp<;>omega) _|refine kL ?_ ‹_›|refine kG ?_ ‹_› (by first|omega|simp<;>omega))|exact⟨by with_reducible rfl⟩|exact⟨by simp⟩),by(repeat first|(with_reducible first|assumption|exact kN _ _ _ (by simp)|refine kA ?_ _|refine kD ?_|refine kW ?_ _|apply Bk.set'|refine kF ?_ (by simp<;>omega) _|refine kL ?_ ‹_›|refine kG ?_ ‹_› (by first|omega|simp<;>omega))|exact⟨by with_reducible rfl⟩|exact⟨by simp⟩),by(with_reducible repeat first|assumption|refine Own.fars ?_ ‹_› _|refine Own.alloc ?_ _|refine Own.drew ?_|refine Own.drewN ?_ _|refine Own.set (by first|omega|simp<;>omega) ?_ _|refine Own.later ?_ ‹_›|refine Own.gk ?_ ‹_› (by omega)),by(with_reducible repeat first|assumption|refine Own.fars ?_ ‹_› _|refine Own.alloc ?_ _|refine Own.drew ?_|refine Own.drewN ?_ _|refine Own.set (by first|omega|simp<;>omega) ?_ _|refine Own.later ?_ ‹_›|refine Own.gk ?_ ‹_› (by omega)),by(with_reducible repeat first|assumption|refine Own.fars ?_ ‹_› _|refine Own.alloc ?_ _|refine Own.drew ?_|refine Own.drewN ?_ _|refine Own.set (by first|omega|simp<;>omega) ?_ _|refine Own.later ?_ ‹_›|refine Own.gk ?_ ‹_› (by omega)),by(with_reducible repeat first|assumption|refine Own.fars ?_ ‹_› _|refine Own.alloc ?_ _|refine Own.drew ?_|refine Own.drewN ?_ _|refine Own.set (by first|omega|simp<;>omega) ?_ _|refine Own.later ?_ ‹_›|refine Own.gk ?_ ‹_› (by omega)),(show RdL _ R (600+1+12) by(with_reducible repeat first|assumption|refine RdL.alloc ?_ _|refine RdL.drew ?_|refine RdL.drewN ?_ _|refine RdL.far ?_ (by first|omega|simp<;>omega) _|refine RdL.later ?_ ‹_›)).more (by omega),by(with_reducible repeat first|assumption|apply bl0|apply blA|apply blD|apply blN|refine blF ?_ ‹_›|(apply blS;(simp<;>omega))),sm,sp⟩
  ·have e0:(p == 0)=false:=by simpa using q
   go_wp2_with fail
   go_meet
   exact⟨r,A2,c2,A3,c3,HOK.out,S4.more (by omega)⟩
 case rest=>
  obtain⟨r2,B1,d1,B2,d2,hL2,hS⟩:=hcut
  have HL2:=Lib.hid hL2
  clear S4 HOK hL2 hsz
  go_wp2_with fail
  refine(Qz R 700 10 _ hS.r (by omega) (by omega) (by omega)).mono ?_
  rintro e w5 ⟨x,rfl,x0,x1,hR5,hg5⟩
  have S5:=hS.rd hg5 hR5
  clear hS hg5 hR5
  go_upto_if 26 with fail
  go_cut [7] from 9 (fun kv wc=>∃key2:Int,kv= .int .i64 key2∧(-1≤key2∧key2≤10000)∧VrS R 750 M lv B k B' k' r2 B1 d1 B2 d2 w wc)
  case first=>
   by_cases q:x=0
   ·subst q
    go_wp2_with fail
    refine(Qjm R (700+1) _ S5.r (by omega)).mono ?_
    rintro e w6 ⟨key2,rfl,hkb2,hR6,hg6⟩
    have S6:=S5.rd hg6 hR6
    clear S5 hg6 hR6
    go_wp2_with fail
    go_meet
    exact⟨key2,rfl,hkb2,S6.more (by omega)⟩
   ·have e0:(x == 0)=false:=by simpa using q
    go_wp2_with fail
    go_meet
    exact⟨key,rfl,hkb,S5.more (by omega)⟩
  case rest=>
   obtain⟨key2,rfl,hkb2,hS⟩:=hcut
   have HKB:=Lib.hid hkb2
   clear S5 hkb2 hkb
   have hmm:=hS.m
   have W6:=hS.W.sl' Qv
   have G6:=hS.G.sl' Qv
   have hnw:=hS.p.nw
   have hng:=hS.p.ng
   go_wp2
   go_region_held3 (fun w'=>(w'.cell? ⟨M,0,none⟩=some (.int .i64 lv.id)∧w'.cell? ⟨M,1,none⟩=some (.int .i64 lv.ticks)∧w'.cell? ⟨M,2,none⟩=some (.int .i64 lv.start.x)∧w'.cell? ⟨M,3,none⟩=some (.int .i64 lv.start.y)∧w'.cell? ⟨M,4,none⟩=some (.slice B lv.walls.length k)∧w'.cell? ⟨M,5,none⟩=some (.slice B' lv.gates.length k')∧w'.cell? ⟨M,6,none⟩=some (.int .i64 lv.fin.lo.x)∧w'.cell? ⟨M,7,none⟩=some (.int .i64 lv.fin.lo.y)∧w'.cell? ⟨M,8,none⟩=some (.int .i64 lv.fin.hi.x)∧w'.cell? ⟨M,9,none⟩=some (.int .i64 lv.fin.hi.y)∧w'.cell? ⟨M,10,none⟩=some (.int .i64 lv.bans))∧(w'.cell? ⟨M+1,0,none⟩=some (.int .i64 r2.lv)∧w'.cell? ⟨M+1,1,none⟩=some (.int .i64 r2.pl)∧w'.cell? ⟨M+1,2,none⟩=some (.int .i64 r2.sc)∧w'.cell? ⟨M+1,3,none⟩=some (.slice B1 r2.ins.length d1)∧w'.cell? ⟨M+1,4,none⟩=some (.slice B2 r2.hs.length d2)∧w'.cell? ⟨M+1,5,none⟩=some (.int .i64 r2.tag)))
    (first|(refine⟨ZX hS.L ?_,Zt hS.X ?_⟩<;>((with_reducible repeat first|assumption|apply bl0|apply blA|apply blD|apply blN|refine blF ?_ ‹_›|(apply blS;(simp<;>omega)));done))|(refine⟨ZX S7.L ?_,Zt S7.X ?_⟩<;>((with_reducible repeat first|assumption|apply bl0|apply blA|apply blD|apply blN|refine blF ?_ ‹_›|(apply blS;(simp<;>omega)));done))|(refine⟨(show Bk _ M 29 #[.int .i64 lv.id,.int .i64 lv.ticks,.int .i64 lv.start.x,.int .i64 lv.start.y,.slice B lv.walls.length k,.slice B' lv.gates.length k',.int .i64 lv.fin.lo.x,.int .i64 lv.fin.lo.y,.int .i64 lv.fin.hi.x,.int .i64 lv.fin.hi.y,.int .i64 lv.bans] from ?_).c11.1,(show Bk _ (M+1) 33 #[.int .i64 r2.lv,.int .i64 r2.pl,.int .i64 r2.sc,.slice B1 r2.ins.length d1,.slice B2 r2.hs.length d2,.int .i64 r2.tag] from ?_).c6.1⟩<;>((repeat first|(with_reducible first|assumption|exact kN _ _ _ (by first|assumption|simp<;>omega)|refine kA ?_ _|refine kD ?_|refine kW ?_ _|apply Bk.set'|refine kF ?_ (by simp<;>omega) _)|exact⟨by with_reducible rfl⟩|exact⟨by simp⟩);done)))
    ((go_at_call 33;refine(Qcj lv B B' k k' R 750 _ (by have:=hS.r;(with_reducible repeat first|assumption|refine RdL.alloc ?_ _|refine RdL.drew ?_|refine RdL.drewN ?_ _|refine RdL.far ?_ (by first|omega|simp<;>omega) _|refine RdL.later ?_ ‹_›)) (by omega) (by omega) (by omega) (W6.below (by(with_reducible repeat first|assumption|apply bl0|apply blA|apply blD|apply blN|refine blF ?_ ‹_›|(apply blS;(simp<;>omega))))) (G6.below (by(with_reducible repeat first|assumption|apply bl0|apply blA|apply blD|apply blN|refine blF ?_ ‹_›|(apply blS;(simp<;>omega))))) hS.W.none_cap hS.G.none_cap (fun a e=>by subst e;have:=hS.W.lt a.block rfl;exact⟨by omega,by first|exact this.2|(simp;omega)⟩) (fun a e=>by subst e;have:=hS.G.lt a.block rfl;exact⟨by omega,by first|exact this.2|(simp;omega)⟩)).mono ?_;rintro e w7 ⟨lb,E,E',j,j',rfl,⟨nb,nb'⟩,W7,G7,e7,e7',hER,hER',hR7,hg7⟩;have S7:VrS R (750+30) M lv B k B' k' r2 B1 d1 B2 d2 w w7:=(VrS.later hS (by(with_reducible repeat first|assumption|apply bl0|apply blA|apply blD|apply blN|refine blF ?_ ‹_›|(apply blS;(simp<;>omega))))).rd hg7 hR7;have zL7:=S7.L.lt;have L7:=S7.L;have X7:=S7.X;obtain⟨⟨z0,z1,z2,z3,z4,z5,z6,z7,z8,z9,z10⟩,zf⟩:=S7.Z.c11;obtain⟨⟨y0,y1,y2,y3,y4,y5⟩,yf⟩:=S7.Y.c6))
   have d7:=S7.d
   have I7:=S7.I.sl' Qh
   have H7:=S7.H.sl' Qi
   have hci:r2.ins.length≤d1:=by
    obtain⟨_,_,hv,hcc,_⟩:=S7.I.form
    injection hv with _ _ hv
    omega
   have hch:r2.hs.length≤d2:=by
    obtain⟨_,_,hv,hcc,_⟩:=S7.H.form
    injection hv with _ _ hv
    omega
   have q1: ∀a,E=some a→w.heap.size+2≤a.block:=fun a e=>by have:=hER a e;omega
   have q2: ∀a,E'=some a→w.heap.size+2≤a.block:=fun a e=>by have:=hER' a e;omega
   have q3: ∀a,B1=some a→w.heap.size+2≤a.block:=fun a e=>by subst e;have:=(S7.I.lt a.block rfl).1;omega
   have q4: ∀a,B2=some a→w.heap.size+2≤a.block:=fun a e=>by subst e;have:=(S7.H.lt a.block rfl).1;omega
   have n3:=S7.I.none_cap
   have n4:=S7.H.none_cap
   go_wp2
   refine bodyPost_ret (v:= .tuple #[.agg #[.int .i64 lb.id,.int .i64 lb.ticks,.int .i64 lb.start.x,.int .i64 lb.start.y,.slice E lb.walls.length j,.slice E' lb.gates.length j',.int .i64 lb.fin.lo.x,.int .i64 lb.fin.lo.y,.int .i64 lb.fin.hi.x,.int .i64 lb.fin.hi.y,.int .i64 lb.bans],.int .i64 key2,.agg #[.int .i64 r2.lv,.int .i64 r2.pl,.int .i64 r2.sc,.slice B1 r2.ins.length d1,.slice B2 r2.hs.length d2,.int .i64 r2.tag]]) (by simp[results, Tryz.results10,go_sem, *]) rfl ⟨lb,E,E',j,j',key2,r2,B1,d1,B2,d2,rfl,⟨nb,nb',?_,?_,e7,e7',HL2.out,?_,?_,hci,hch,n3,n4⟩,HKB.out,⟨fun a e=>Nat.le_of_add_right_le (q1 a e),fun a e=>Nat.le_of_add_right_le (q2 a e),fun a e=>Nat.le_of_add_right_le (q3 a e),fun a e=>Nat.le_of_add_right_le (q4 a e)⟩,by(with_reducible repeat first|assumption|apply bl0|apply blA|apply blD|apply blN|refine blF ?_ ‹_›|(apply blS;(simp<;>omega)))⟩
   ·have hA6R:=q1
    (repeat(first|(with_reducible assumption)|(with_reducible refine Sl.far' ?_ (fun a e=>Nat.ne_of_gt (Nat.lt_of_lt_of_le (by simp) (hA6R a e))) _)))
   ·have hA6R:=q2
    (repeat(first|(with_reducible assumption)|(with_reducible refine Sl.far' ?_ (fun a e=>Nat.ne_of_gt (Nat.lt_of_lt_of_le (by simp) (hA6R a e))) _)))
   ·have hA6R:=q3
    (repeat(first|(with_reducible assumption)|(with_reducible refine Sl.far' ?_ (fun a e=>Nat.ne_of_gt (Nat.lt_of_lt_of_le (by simp) (hA6R a e))) _)))
   ·have hA6R:=q4
    (repeat(first|(with_reducible assumption)|(with_reducible refine Sl.far' ?_ (fun a e=>Nat.ne_of_gt (Nat.lt_of_lt_of_le (by simp) (hA6R a e))) _)))
end Go.Proofs.YtpmjcjoeckajgaaGreatDoor
