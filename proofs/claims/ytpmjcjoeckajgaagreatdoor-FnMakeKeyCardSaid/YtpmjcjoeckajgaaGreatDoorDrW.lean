/- The reference's l91Key, DrawReplayMake. (Round B, seat Z; printed by gen/drw.py) -/
import Derived.Test.YtpmjcjoeckajgaaGreatDoorZDrawL
namespace Go.Proofs.YtpmjcjoeckajgaaGreatDoor
open Go.ChangeShapes Go.WideShapes Go.ChangeAt Go.RowKit
def Qmd(R n:Nat)(w:World)(e:Ending)(w':World):Prop:=∃x:Int,e= .returned (.int .i64 x)∧(-1≤x∧x≤10000)∧RdL w' R n∧w.grownBy w' (some R)
def Qmi(w:World)(e:Ending)(w':World):Prop:=∃l A A' c c' pl key ins A2 c2,e= .returned (.tuple #[.agg #[.int .i64 l.id,.int .i64 l.ticks,.int .i64 l.start.x,.int .i64 l.start.y,.slice A l.walls.length c,.slice A' l.gates.length c',.int .i64 l.fin.lo.x,.int .i64 l.fin.lo.y,.int .i64 l.fin.hi.x,.int .i64 l.fin.hi.y,.int .i64 l.bans],.int .i64 pl,.int .i64 key,.slice A2 ins.length c2])∧Qb l A A' c c' ins A2 c2 w'∧(-2≤pl∧pl≤11)∧(-1≤key∧key≤10000)∧((∀a,A=some a→w.heap.size≤a.block)∧(∀a,A'=some a→w.heap.size≤a.block)∧(∀a,A2=some a→w.heap.size≤a.block))∧Below w.heap.size w w'
set_option maxRecDepth 100000 in
set_option maxHeartbeats 2000000 in
theorem Qjm(R n:Nat)(w:World)(h:RdL w R n)(hn:n≤900000):Calls Sq.prog 32 #[.pointer (some ⟨R,0,none⟩)] w (Qmd R (n+3) w):=by
 have hRl:=h.lt
 go_enter Sq.func32, Tryz.ntmps32
 go_wp2_with fail
 refine(Qz R n 20 _ h (by omega) (by omega) (by omega)).mono ?_
 rintro e w1 ⟨x,rfl,x0,x1,hR1,hg1⟩
 have hRl1:=hR1.lt
 by_cases q0:x=0
 ·subst q0
  obtain⟨M,hM⟩: ∃M,w1.heap.size=M:=⟨_,rfl⟩
  have B1:Bk (w1.alloc (.cells #[.int .i64 0,.int .i64 9999,.int .i64 10000,.int .i64 (-1)] 3)) M 3 #[.int .i64 0,.int .i64 9999,.int .i64 10000,.int .i64 (-1)]:=Bk.new w1 _ _ hM
  go_wp2_with fail
  refine(Qz R (n+1) 4 _ (hR1.alloc _) (by omega) (by omega) (by omega)).mono ?_
  rintro e w2 ⟨y,rfl,y0,y1,hR2,hg2⟩
  have B2:=B1.grown hg2 (by intro e;injection e;omega)
  have zB2:=B2.lt
  obtain⟨⟨b0,b1,b2,b3⟩,bf⟩:=B2.c4
  have hgr:w.grownBy w2 (some R):=XT (Qk hg1 _) hg2
  clear hg1 hg2 B1 B2 hR1 h
  rcases(show y=0∨y=1∨y=2∨y=3 by omega) with rfl|rfl|rfl|rfl
  ·go_wp2
   go_ret
   exact⟨0,rfl,by omega,hR2.more (by omega),hgr⟩
  ·go_wp2
   go_ret
   exact⟨9999,rfl,by omega,hR2.more (by omega),hgr⟩
  ·go_wp2
   go_ret
   exact⟨10000,rfl,by omega,hR2.more (by omega),hgr⟩
  ·go_wp2
   go_ret
   exact⟨(-1),rfl,by omega,hR2.more (by omega),hgr⟩
 ·go_wp2_with fail
  refine(Qz R (n+1) 99 _ hR1 (by omega) (by omega) (by omega)).mono ?_
  rintro e w2 ⟨y,rfl,y0,y1,hR2,hg2⟩
  go_wp2_with fail
  refine(Qz R (n+1+1) 100 _ hR2 (by omega) (by omega) (by omega)).mono ?_
  rintro e w3 ⟨z,rfl,z0,z1,hR3,hg3⟩
  have hgr:w.grownBy w3 (some R):=XT (XT hg1 hg2) hg3
  clear hg1 hg2 hg3 hR1 hR2 h
  go_wp2
  go_ret
  exact⟨_,rfl,by omega,hR3.more (by omega),hgr⟩
set_option maxRecDepth 100000 in
set_option maxHeartbeats 2000000 in
theorem Qds(A:Option Addr)(n c:Nat)(l:List Int)(w:World)(h:Sl w 1 QD A n l)(hl: ∀x∈l,0≤x∧x<256)(hn:n≤9223372036854775807)(hnc:n≤c)(hc:c≤9223372036854775807):
 Calls Sq.prog 17 #[.slice A n c] w (Qmi w):=by
 go_enter Sq.func17, Tryz.ntmps17
 go_wp2_with fail
 refine(QaK A n c l _ (h.below (Qf (Below.refl _ _) _)) hl hn hnc hc).mono ?_
 rintro e w1 ⟨R,rfl,hRw,hR1,hb1⟩
 simp only[World.size_alloc] at hRw
 have hRl:=hR1.lt
 have Z1:Bk w1 w.heap.size 29 #[.int .i64 0,.int .i64 0,.int .i64 0,.int .i64 0,.slice none 0 0,.slice none 0 0,.int .i64 0,.int .i64 0,.int .i64 0,.int .i64 0,.int .i64 0]:=Bk.later (by(repeat first|(with_reducible first|assumption|exact kN _ _ _ (by simp)|refine kA ?_ _|refine kD ?_|refine kW ?_ _|apply Bk.set'|refine kF ?_ (by simp<;>omega) _|refine kL ?_ ‹_›|refine kG ?_ ‹_› (by first|omega|simp<;>omega))|exact⟨by with_reducible rfl⟩|exact⟨by simp⟩)) hb1
 have d1:Below w.heap.size w w1:=Qa (Qf (Below.refl _ _) _) hb1
 clear hb1 h
 go_wp2_with fail
 refine(Qa8 R 0 _ hR1 (by omega)).mono ?_
 rintro e w2 ⟨lv,A2,c2,A3,c3,rfl,hLD,hW2,hG2,hR2,hg2⟩
 have Z2:=Z1.grown hg2 (by intro e;injection e;omega)
 have d2:Below w.heap.size w w2:=d1.grown hg2 d1.size (fun k e=>by cases e;omega)
 have s2:=hg2.size
 have bA:=QaT hW2 hRl
 have bA':=QaT hG2 hRl
 have n2:=hW2.none_cap
 have n3:=hG2.none_cap
 have nw:=hLD.nw
 have ng:=hLD.ng
 have W2:=hW2.sl' Qv
 have G2:=hG2.sl' Qv
 clear Z1 d1 hg2 hW2 hG2 hR1
 obtain⟨M,hM⟩: ∃M,w2.heap.size=M:=⟨_,rfl⟩
 have hRM:R<M:=by omega
 have zZ2:=Z2.lt
 have L2:Bk (w2.alloc (.cells #[.int .i64 lv.id,.int .i64 lv.ticks,.int .i64 lv.start.x,.int .i64 lv.start.y,.slice A2 lv.walls.length c2,.slice A3 lv.gates.length c3,.int .i64 lv.fin.lo.x,.int .i64 lv.fin.lo.y,.int .i64 lv.fin.hi.x,.int .i64 lv.fin.hi.y,.int .i64 lv.bans] 29)) M 29 #[.int .i64 lv.id,.int .i64 lv.ticks,.int .i64 lv.start.x,.int .i64 lv.start.y,.slice A2 lv.walls.length c2,.slice A3 lv.gates.length c3,.int .i64 lv.fin.lo.x,.int .i64 lv.fin.lo.y,.int .i64 lv.fin.hi.x,.int .i64 lv.fin.hi.y,.int .i64 lv.bans]:=Bk.new w2 _ _ hM
 go_wp2_with fail
 refine(QdE lv A2 A3 c2 c3 R (0+40) _ (hR2.alloc _) (by omega) hLD (W2.below (Qf (Below.refl _ _) _)) (G2.below (Qf (Below.refl _ _) _)) (fun a e=>⟨(bA a e).1,by have:=(bA a e).2;simp;omega⟩) (fun a e=>⟨(bA' a e).1,by have:=(bA' a e).2;simp;omega⟩)).mono ?_
 rintro e w3 ⟨ins,A4,c4,rfl,hP,hO3,hR3,hg3⟩
 have L3:=L2.grown hg3 (by intro e;injection e;omega)
 have Z3:=(Z2.alloc (.cells #[.int .i64 lv.id,.int .i64 lv.ticks,.int .i64 lv.start.x,.int .i64 lv.start.y,.slice A2 lv.walls.length c2,.slice A3 lv.gates.length c3,.int .i64 lv.fin.lo.x,.int .i64 lv.fin.lo.y,.int .i64 lv.fin.hi.x,.int .i64 lv.fin.hi.y,.int .i64 lv.bans] 29)).grown hg3 (by intro e;injection e;omega)
 have W3:=(W2.below (Qf (Below.refl _ _) (.cells #[.int .i64 lv.id,.int .i64 lv.ticks,.int .i64 lv.start.x,.int .i64 lv.start.y,.slice A2 lv.walls.length c2,.slice A3 lv.gates.length c3,.int .i64 lv.fin.lo.x,.int .i64 lv.fin.lo.y,.int .i64 lv.fin.hi.x,.int .i64 lv.fin.hi.y,.int .i64 lv.bans] 29))).grown hg3 (fun a e e2=>by injection e2 with e2;have:=(bA a e).1;omega)
 have G3:=(G2.below (Qf (Below.refl _ _) (.cells #[.int .i64 lv.id,.int .i64 lv.ticks,.int .i64 lv.start.x,.int .i64 lv.start.y,.slice A2 lv.walls.length c2,.slice A3 lv.gates.length c3,.int .i64 lv.fin.lo.x,.int .i64 lv.fin.lo.y,.int .i64 lv.fin.hi.x,.int .i64 lv.fin.hi.y,.int .i64 lv.bans] 29))).grown hg3 (fun a e e2=>by injection e2 with e2;have:=(bA' a e).1;omega)
 have d3:Below w.heap.size w w3:=(Qf d2 _).grown hg3 (by have:=d2.size;simp;omega) (fun k e=>by cases e;omega)
 have s3:=hg3.size
 simp only[World.size_alloc] at s3
 have O3:Own w3 M 39 3 Qd (.slice A4 ins.length c4) ins:=hO3.mono (by simp;omega)
 clear L2 Z2 W2 G2 d2 hg3 hO3 hR2
 have zZ3:=Z3.lt
 have zL3:=L3.lt
 obtain⟨⟨l0,l1,l2,l3,l4,l5,l6,l7,l8,l9,l10⟩,lf⟩:=L3.c11
 obtain⟨⟨z0,z1,z2,z3,z4,z5,z6,z7,z8,z9,z10⟩,zf⟩:=Z3.c11
 have hw4:lv.walls.length≤4:=nw
 have hg4:lv.gates.length≤4:=by omega
 go_wp2_with fail
 refine(Qcj lv A2 A3 c2 c3 R (0+40+220) _ hR3 (by omega) hw4 hg4 W3 G3 n2 n3 (fun a e=>⟨(bA a e).1,by have:=(bA a e).2;omega⟩) (fun a e=>⟨(bA' a e).1,by have:=(bA' a e).2;omega⟩)).mono ?_
 rintro e w4 ⟨lb,B,B',k,k',rfl,⟨nb,nb'⟩,W4,G4,e4,e4',hBR,hBR',hR4,hg5⟩
 have O4:=O3.gk hg5 hRM
 have Z4:=Z3.grown hg5 (by intro e;injection e;omega)
 have d4:Below w.heap.size w w4:=d3.grown hg5 d3.size (fun k e=>by cases e;omega)
 have zZ4:=Z4.lt
 have hc4a:ins.length≤c4:=by
  obtain⟨_,_,hv,hcc,_⟩:=O4.form
  injection hv with _ _ hv
  omega
 have hO4b: ∀a,A4=some a→w.heap.size+2≤a.block:=fun a e=>by subst e;have:=(O4.lt a.block rfl).1;omega
 have hBb: ∀a,B=some a→w.heap.size+2≤a.block:=fun a e=>by have:=hBR a e;omega
 have hBb': ∀a,B'=some a→w.heap.size+2≤a.block:=fun a e=>by have:=hBR' a e;omega
 have hn4:=O4.none_cap
 have I4:=O4.sl' Qh
 clear l0 l1 l2 l3 l4 l5 l6 l7 l8 l9 l10 lf z0 z1 z2 z3 z4 z5 z6 z7 z8 z9 z10 zf L3 Z3 W3 G3 O3 d3 hg5
 have nb4:=hP.2
 go_wp2_with fail
 refine(Qz R (0+40+220+30) 10 _ hR4 (by omega) (by omega) (by omega)).mono ?_
 rintro e w5 ⟨p,rfl,p0,p1,hR5,hg5⟩
 have Z5:=Z4.grown hg5 (by intro e;injection e;omega)
 have O5:=O4.gk hg5 hRM
 have W5:=W4.grown hg5 (fun a e e2=>by injection e2 with e2;have:=hBR a e;omega)
 have G5:=G4.grown hg5 (fun a e e2=>by injection e2 with e2;have:=hBR' a e;omega)
 have d5:Below w.heap.size w w5:=d4.grown hg5 d4.size (fun k e=>by cases e;omega)
 clear hg5 Z4 O4 W4 G4 d4 I4
 go_wp2_with fail
 refine(Qz R (0+40+220+30+1) 20 _ hR5 (by omega) (by omega) (by omega)).mono ?_
 rintro e w6 ⟨q,rfl,q0,q1,hR6,hg6⟩
 have Z6:=Z5.grown hg6 (by intro e;injection e;omega)
 have O6:=O5.gk hg6 hRM
 have W6:=W5.grown hg6 (fun a e e2=>by injection e2 with e2;have:=hBR a e;omega)
 have G6:=G5.grown hg6 (fun a e e2=>by injection e2 with e2;have:=hBR' a e;omega)
 have d6:Below w.heap.size w w6:=d5.grown hg6 d5.size (fun k e=>by cases e;omega)
 clear hg6 Z5 O5 W5 G5 d5
 go_wp2_with fail
 refine(Qz R (0+40+220+30+1+1) 20 _ hR6 (by omega) (by omega) (by omega)).mono ?_
 rintro e w7 ⟨r,rfl,r0,r1,hR7,hg7⟩
 have Z7:=Z6.grown hg7 (by intro e;injection e;omega)
 have O7:=O6.gk hg7 hRM
 have W7:=W6.grown hg7 (fun a e e2=>by injection e2 with e2;have:=hBR a e;omega)
 have G7:=G6.grown hg7 (fun a e e2=>by injection e2 with e2;have:=hBR' a e;omega)
 have d7:Below w.heap.size w w7:=d6.grown hg7 d6.size (fun k e=>by cases e;omega)
 clear hg7 Z6 O6 W6 G6 d6
 go_wp2_with fail
 refine(Qjm R (0+40+220+30+1+1+1) _ hR7 (by omega)).mono ?_
 rintro e w8 ⟨ky,rfl,hky,hR8,hg8⟩
 have Z8:=Z7.grown hg8 (by intro e;injection e;omega)
 have O8:=O7.gk hg8 hRM
 have W8:=W7.grown hg8 (fun a e e2=>by injection e2 with e2;have:=hBR a e;omega)
 have G8:=G7.grown hg8 (fun a e e2=>by injection e2 with e2;have:=hBR' a e;omega)
 have d8:Below w.heap.size w w8:=d7.grown hg8 d7.size (fun k e=>by cases e;omega)
 clear hg8 Z7 O7 W7 G7 d7
 have zZ8:=Z8.lt
 have I8:=O8.sl' Qh
 clear zZ4
 have tq:0≤q.tdiv 19∧q.tdiv 19≤1:=by rw[Int.tdiv_eq_ediv_of_nonneg q0];omega
 have tr:0≤r.tdiv 19∧r.tdiv 19≤1:=by rw[Int.tdiv_eq_ediv_of_nonneg r0];omega
 obtain⟨tq0,tq1⟩:=tq
 obtain⟨tr0,tr1⟩:=tr
 obtain⟨⟨z0,z1,z2,z3,z4,z5,z6,z7,z8,z9,z10⟩,zf⟩:=Z8.c11
 go_wp2
 refine bodyPost_ret (v:= .tuple #[.agg #[.int .i64 lb.id,.int .i64 lb.ticks,.int .i64 lb.start.x,.int .i64 lb.start.y,.slice B lb.walls.length k,.slice B' lb.gates.length k',.int .i64 lb.fin.lo.x,.int .i64 lb.fin.lo.y,.int .i64 lb.fin.hi.x,.int .i64 lb.fin.hi.y,.int .i64 lb.bans],.int .i64 _,.int .i64 ky,.slice A4 ins.length c4]) (by simp[results, Tryz.results17,go_sem, *];rfl) rfl ⟨lb,B,B',k,k',_,ky,ins,A4,c4,rfl,⟨nb,nb',?_,?_,e4,e4',hP.2,?_,hc4a,hn4⟩,?_,hky,⟨fun a e=>Nat.le_of_add_right_le (hBb a e),fun a e=>Nat.le_of_add_right_le (hBb' a e),fun a e=>Nat.le_of_add_right_le (hO4b a e)⟩,by(with_reducible repeat first|assumption|apply bl0|apply blA|apply blD|apply blN|refine blF ?_ ‹_›|(apply blS;(simp<;>omega)))⟩
 ·have hA6R:=hBb
  (repeat(first|(with_reducible assumption)|(with_reducible refine Sl.far' ?_ (fun a e=>Nat.ne_of_gt (Nat.lt_of_lt_of_le (by simp) (hA6R a e))) _)))
 ·have hA6R:=hBb'
  (repeat(first|(with_reducible assumption)|(with_reducible refine Sl.far' ?_ (fun a e=>Nat.ne_of_gt (Nat.lt_of_lt_of_le (by simp) (hA6R a e))) _)))
 ·have hA6R:=hO4b
  (repeat(first|(with_reducible assumption)|(with_reducible refine Sl.far' ?_ (fun a e=>Nat.ne_of_gt (Nat.lt_of_lt_of_le (by simp) (hA6R a e))) _)))
 ·omega
end Go.Proofs.YtpmjcjoeckajgaaGreatDoor
