/- Lemmas: DrD DrL DrM EqS. -/
import Derived.Test.YtpmjcjoeckajgaaGreatDoorZDraw
import Derived.Test.YtpmjcjoeckajgaaGreatDoorZPart
import Derived.Deep.RegionHeld3
import Derived.Deep.Cut
import Derived.Test.YtpmjcjoeckajgaaGreatDoorZImpC
/- Draws of inputs: l92Any; DrawReplayParts. -/
namespace Go.Proofs.YtpmjcjoeckajgaaGreatDoor
open Go.ChangeShapes Go.WideShapes Go.ChangeAt Go.RowKit
theorem QiU{x:Inp}(h:QT x=true):smI x:=by
 have:=Qcd h
 unfold smI
 omega
theorem Sl.lits{α:Type}{enc:α→List Value}{sz:Nat}(w:World)(T:TypeId)(cs:Array Value)(l:List α)(g n:Nat)(he: ∀x,(enc x).length=sz)(hg:w.heap.size=g)(hn:l.length=n)(h:cs.toList=l.flatMap enc):Sl (w.alloc (.cells cs T)) sz enc (some ⟨g,0,none⟩) n l:=by
 subst hg hn
 refine⟨rfl,fun _=>⟨w.heap.size,0,rfl,by simp,fun k x hk j v hv=>?_⟩⟩
 have h1:=JO he l k x j v hk hv
 have h2:=(Blk.new w cs T).2 (k*sz+j) v (by rw[h];exact h1)
 rw[Nat.zero_add]
 exact h2
end Go.Proofs.YtpmjcjoeckajgaaGreatDoor
/- The reference's draws: vectors, boxes, changed levels. Printed by gen/drl.py. (Round B) -/
namespace Go.Proofs.YtpmjcjoeckajgaaGreatDoor
open Go.ChangeShapes Go.WideShapes Go.ChangeAt Go.RowKit
def smV(v:V2):Prop:=(-1000001≤v.x∧v.x≤1000001)∧(-1000001≤v.y∧v.y≤1000001)
def Qmu(R n:Nat)(w:World)(e:Ending)(w':World):Prop:=∃v:V2,e= .returned (.agg #[.int .i64 v.x,.int .i64 v.y])∧smV v∧RdL w' R n∧w.grownBy w' (some R)
set_option maxRecDepth 100000 in
set_option maxHeartbeats 4000000 in
theorem QeF(R n:Nat)(w:World)(h:RdL w R n)(hn:n≤900000):Calls Sq.prog 76 #[.pointer (some ⟨R,0,none⟩)] w (Qmu R (n+8) w):=by
 have hRl:=h.lt
 go_enter Sq.func76, Tryz.ntmps76
 go_wp2_with fail
 refine(Qz R n 100 _ (by(with_reducible repeat first|assumption|refine RdL.alloc ?_ _|refine RdL.drew ?_|refine RdL.drewN ?_ _|refine RdL.far ?_ (by first|omega|simp<;>omega) _|refine RdL.later ?_ ‹_›)) (by omega) (by omega) (by omega)).mono ?_
 rintro e w1 ⟨a1,rfl,a1_0,a1_1,hR1,hg1⟩
 have Z1:Bk w1 (w.heap.size) 24 #[.int .i64 0,.int .i64 0]:=by(repeat first|(with_reducible first|assumption|exact kN _ _ _ (by simp)|refine kA ?_ _|refine kD ?_|refine kW ?_ _|apply Bk.set'|refine kF ?_ (by simp<;>omega) _|refine kL ?_ ‹_›|refine kG ?_ ‹_› (by first|omega|simp<;>omega))|exact⟨by with_reducible rfl⟩|exact⟨by simp⟩)
 have hgr1:w.grownBy w1 (some R):=by(with_reducible repeat first|assumption|exact Ql _ _|refine Qk ?_ _|refine Qj (by first|omega|simp<;>omega) ?_ _|refine Qo ?_|refine Qp ?_ _|refine Qn ?_ ‹_›|refine Qm ?_ ‹_›)
 have hsz1:=hgr1.size
 have hRl1:=hR1.lt
 clear hg1
 have zZ1:=Z1.lt
 go_wp2_with fail
 refine(Qz R (n+1) 100 _ (by(with_reducible repeat first|assumption|refine RdL.alloc ?_ _|refine RdL.drew ?_|refine RdL.drewN ?_ _|refine RdL.far ?_ (by first|omega|simp<;>omega) _|refine RdL.later ?_ ‹_›)) (by omega) (by omega) (by omega)).mono ?_
 rintro e w2 ⟨a2,rfl,a2_0,a2_1,hR2,hg2⟩
 have Z2:Bk w2 (w.heap.size) 24 #[.int .i64 0,.int .i64 0]:=by(repeat first|(with_reducible first|assumption|exact kN _ _ _ (by simp)|refine kA ?_ _|refine kD ?_|refine kW ?_ _|apply Bk.set'|refine kF ?_ (by simp<;>omega) _|refine kL ?_ ‹_›|refine kG ?_ ‹_› (by first|omega|simp<;>omega))|exact⟨by with_reducible rfl⟩|exact⟨by simp⟩)
 have hgr2:w.grownBy w2 (some R):=by(with_reducible repeat first|assumption|exact Ql _ _|refine Qk ?_ _|refine Qj (by first|omega|simp<;>omega) ?_ _|refine Qo ?_|refine Qp ?_ _|refine Qn ?_ ‹_›|refine Qm ?_ ‹_›)
 have hsz2:=hgr2.size
 have hRl2:=hR2.lt
 clear hg2 hgr1 hR1 Z1
 have zZ2:=Z2.lt
 go_wp2_with fail
 refine(Qz R (n+2) 2 _ (by(with_reducible repeat first|assumption|refine RdL.alloc ?_ _|refine RdL.drew ?_|refine RdL.drewN ?_ _|refine RdL.far ?_ (by first|omega|simp<;>omega) _|refine RdL.later ?_ ‹_›)) (by omega) (by omega) (by omega)).mono ?_
 rintro e w3 ⟨a3,rfl,a3_0,a3_1,hR3,hg3⟩
 have Z3:Bk w3 (w.heap.size) 24 #[.int .i64 0,.int .i64 0]:=by(repeat first|(with_reducible first|assumption|exact kN _ _ _ (by simp)|refine kA ?_ _|refine kD ?_|refine kW ?_ _|apply Bk.set'|refine kF ?_ (by simp<;>omega) _|refine kL ?_ ‹_›|refine kG ?_ ‹_› (by first|omega|simp<;>omega))|exact⟨by with_reducible rfl⟩|exact⟨by simp⟩)
 have hgr3:w.grownBy w3 (some R):=by(with_reducible repeat first|assumption|exact Ql _ _|refine Qk ?_ _|refine Qj (by first|omega|simp<;>omega) ?_ _|refine Qo ?_|refine Qp ?_ _|refine Qn ?_ ‹_›|refine Qm ?_ ‹_›)
 have hsz3:=hgr3.size
 have hRl3:=hR3.lt
 clear hg3 hgr2 hR2 Z2
 have zZ3:=Z3.lt
 have hma: -9999≤(a1*100+a2)*(1 - 2*a3)∧(a1*100+a2)*(1 - 2*a3)≤9999:=by rcases(show a3=0∨a3=1 by omega) with rfl|rfl<;>omega
 go_wp2_with fail
 refine(Qz R (n+3) 100 _ (by(with_reducible repeat first|assumption|refine RdL.alloc ?_ _|refine RdL.drew ?_|refine RdL.drewN ?_ _|refine RdL.far ?_ (by first|omega|simp<;>omega) _|refine RdL.later ?_ ‹_›)) (by omega) (by omega) (by omega)).mono ?_
 rintro e w4 ⟨b1,rfl,b1_0,b1_1,hR4,hg4⟩
 have Z4:Bk w4 (w.heap.size) 24 #[.int .i64 0,.int .i64 0]:=by(repeat first|(with_reducible first|assumption|exact kN _ _ _ (by simp)|refine kA ?_ _|refine kD ?_|refine kW ?_ _|apply Bk.set'|refine kF ?_ (by simp<;>omega) _|refine kL ?_ ‹_›|refine kG ?_ ‹_› (by first|omega|simp<;>omega))|exact⟨by with_reducible rfl⟩|exact⟨by simp⟩)
 have hgr4:w.grownBy w4 (some R):=by(with_reducible repeat first|assumption|exact Ql _ _|refine Qk ?_ _|refine Qj (by first|omega|simp<;>omega) ?_ _|refine Qo ?_|refine Qp ?_ _|refine Qn ?_ ‹_›|refine Qm ?_ ‹_›)
 have hsz4:=hgr4.size
 have hRl4:=hR4.lt
 clear hg4 hgr3 hR3 Z3
 have zZ4:=Z4.lt
 go_wp2_with fail
 refine(Qz R (n+4) 100 _ (by(with_reducible repeat first|assumption|refine RdL.alloc ?_ _|refine RdL.drew ?_|refine RdL.drewN ?_ _|refine RdL.far ?_ (by first|omega|simp<;>omega) _|refine RdL.later ?_ ‹_›)) (by omega) (by omega) (by omega)).mono ?_
 rintro e w5 ⟨b2,rfl,b2_0,b2_1,hR5,hg5⟩
 have Z5:Bk w5 (w.heap.size) 24 #[.int .i64 0,.int .i64 0]:=by(repeat first|(with_reducible first|assumption|exact kN _ _ _ (by simp)|refine kA ?_ _|refine kD ?_|refine kW ?_ _|apply Bk.set'|refine kF ?_ (by simp<;>omega) _|refine kL ?_ ‹_›|refine kG ?_ ‹_› (by first|omega|simp<;>omega))|exact⟨by with_reducible rfl⟩|exact⟨by simp⟩)
 have hgr5:w.grownBy w5 (some R):=by(with_reducible repeat first|assumption|exact Ql _ _|refine Qk ?_ _|refine Qj (by first|omega|simp<;>omega) ?_ _|refine Qo ?_|refine Qp ?_ _|refine Qn ?_ ‹_›|refine Qm ?_ ‹_›)
 have hsz5:=hgr5.size
 have hRl5:=hR5.lt
 clear hg5 hgr4 hR4 Z4
 have zZ5:=Z5.lt
 go_wp2_with fail
 refine(Qz R (n+5) 2 _ (by(with_reducible repeat first|assumption|refine RdL.alloc ?_ _|refine RdL.drew ?_|refine RdL.drewN ?_ _|refine RdL.far ?_ (by first|omega|simp<;>omega) _|refine RdL.later ?_ ‹_›)) (by omega) (by omega) (by omega)).mono ?_
 rintro e w6 ⟨b3,rfl,b3_0,b3_1,hR6,hg6⟩
 have Z6:Bk w6 (w.heap.size) 24 #[.int .i64 0,.int .i64 0]:=by(repeat first|(with_reducible first|assumption|exact kN _ _ _ (by simp)|refine kA ?_ _|refine kD ?_|refine kW ?_ _|apply Bk.set'|refine kF ?_ (by simp<;>omega) _|refine kL ?_ ‹_›|refine kG ?_ ‹_› (by first|omega|simp<;>omega))|exact⟨by with_reducible rfl⟩|exact⟨by simp⟩)
 have hgr6:w.grownBy w6 (some R):=by(with_reducible repeat first|assumption|exact Ql _ _|refine Qk ?_ _|refine Qj (by first|omega|simp<;>omega) ?_ _|refine Qo ?_|refine Qp ?_ _|refine Qn ?_ ‹_›|refine Qm ?_ ‹_›)
 have hsz6:=hgr6.size
 have hRl6:=hR6.lt
 clear hg6 hgr5 hR5 Z5
 have zZ6:=Z6.lt
 have hmb: -9999≤(b1*100+b2)*(1 - 2*b3)∧(b1*100+b2)*(1 - 2*b3)≤9999:=by rcases(show b3=0∨b3=1 by omega) with rfl|rfl<;>omega
 go_wp2_with fail
 refine(Qz R (n+6) 20 _ (by(with_reducible repeat first|assumption|refine RdL.alloc ?_ _|refine RdL.drew ?_|refine RdL.drewN ?_ _|refine RdL.far ?_ (by first|omega|simp<;>omega) _|refine RdL.later ?_ ‹_›)) (by omega) (by omega) (by omega)).mono ?_
 rintro e w7 ⟨p,rfl,p_0,p_1,hR7,hg7⟩
 generalize hgx:(a1*100+a2)*(1 - 2*a3)=X at*
 generalize hgy:(b1*100+b2)*(1 - 2*b3)=Y at*
 generalize hM:w6.heap.size=M at*
 clear hgx hgy a1_0 a1_1 a2_0 a2_1 a3_0 a3_1 b1_0 b1_1 b2_0 b2_1 b3_0 b3_1
 have V7:Bk w7 M 24 #[.int .i64 X,.int .i64 Y]:=(Bk.new w6 _ _ hM).grown hg7 (by intro e;injection e;omega)
 have Z7:Bk w7 w.heap.size 24 #[.int .i64 0,.int .i64 0]:=by(repeat first|(with_reducible first|assumption|exact kN _ _ _ (by simp)|refine kA ?_ _|refine kD ?_|refine kW ?_ _|apply Bk.set'|refine kF ?_ (by simp<;>omega) _|refine kL ?_ ‹_›|refine kG ?_ ‹_› (by first|omega|simp<;>omega))|exact⟨by with_reducible rfl⟩|exact⟨by simp⟩)
 have hgr7:w.grownBy w7 (some R):=by(with_reducible repeat first|assumption|exact Ql _ _|refine Qk ?_ _|refine Qj (by first|omega|simp<;>omega) ?_ _|refine Qo ?_|refine Qp ?_ _|refine Qn ?_ ‹_›|refine Qm ?_ ‹_›)
 have hsz7:=hgr7.size
 have hRl7:=hR7.lt
 clear hg7 hgr6 hR6 Z6
 have zZ7:=Z7.lt
 have zV7:=V7.lt
 by_cases hp0:p=0
 ·subst hp0
  have hx0: ¬((0:Int)=9):=by omega
  obtain⟨⟨zq0,zq1⟩,zqf⟩:=Z7.c2
  obtain⟨⟨vq0,vq1⟩,vqf⟩:=V7.c2
  go_wp2_with fail
  refine(Qz R (n+7) 4 _ (by(with_reducible repeat first|assumption|refine RdL.alloc ?_ _|refine RdL.drew ?_|refine RdL.drewN ?_ _|refine RdL.far ?_ (by first|omega|simp<;>omega) _|refine RdL.later ?_ ‹_›)) (by omega) (by omega) (by omega)).mono ?_
  rintro e w8 ⟨q,rfl,q_0,q_1,hR8,hg8⟩
  clear zq0 zq1 zqf vq0 vq1 vqf
  have Q8:Bk w8 w7.heap.size 3 #[.int .i64 1000000,.int .i64 (-1000000),.int .i64 1000001,.int .i64 999999]:=(Bk.new w7 _ _ rfl).grown hg8 (by intro e;injection e;omega)
  have V8:Bk w8 M 24 #[.int .i64 X,.int .i64 Y]:=by(repeat first|(with_reducible first|assumption|exact kN _ _ _ (by simp)|refine kA ?_ _|refine kD ?_|refine kW ?_ _|apply Bk.set'|refine kF ?_ (by simp<;>omega) _|refine kL ?_ ‹_›|refine kG ?_ ‹_› (by first|omega|simp<;>omega))|exact⟨by with_reducible rfl⟩|exact⟨by simp⟩)
  have Z8:Bk w8 w.heap.size 24 #[.int .i64 0,.int .i64 0]:=by(repeat first|(with_reducible first|assumption|exact kN _ _ _ (by simp)|refine kA ?_ _|refine kD ?_|refine kW ?_ _|apply Bk.set'|refine kF ?_ (by simp<;>omega) _|refine kL ?_ ‹_›|refine kG ?_ ‹_› (by first|omega|simp<;>omega))|exact⟨by with_reducible rfl⟩|exact⟨by simp⟩)
  have hgr8:w.grownBy w8 (some R):=by(with_reducible repeat first|assumption|exact Ql _ _|refine Qk ?_ _|refine Qj (by first|omega|simp<;>omega) ?_ _|refine Qo ?_|refine Qp ?_ _|refine Qn ?_ ‹_›|refine Qm ?_ ‹_›)
  have hsz8:=hgr8.size
  have hRl8:=hR8.lt
  have hg8s:=hg8.size
  simp only[World.size_alloc] at hg8s
  clear hg8 hgr7 hR7 Z7 V7
  obtain⟨⟨zq0,zq1⟩,zqf⟩:=Z8.c2
  obtain⟨⟨vq0,vq1⟩,vqf⟩:=V8.c2
  obtain⟨⟨q0,q1,q2,q3⟩,qf⟩:=Q8.c4
  rcases(show q=0∨q=1∨q=2∨q=3 by omega) with rfl|rfl|rfl|rfl
  ·
   go_wp2
   refine bodyPost_ret (v:= .agg #[.int .i64 (1000000),.int .i64 (Y)]) (by simp[results, Tryz.results76,go_sem, *]) rfl ⟨⟨1000000,Y⟩,rfl,⟨⟨by simp only;omega,by simp only;omega⟩,by simp only;omega,by simp only;omega⟩,(show RdL _ R (n+8) by(with_reducible repeat first|assumption|refine RdL.alloc ?_ _|refine RdL.drew ?_|refine RdL.drewN ?_ _|refine RdL.far ?_ (by first|omega|simp<;>omega) _|refine RdL.later ?_ ‹_›)).more (by omega),by(with_reducible repeat first|assumption|exact Ql _ _|refine Qk ?_ _|refine Qj (by first|omega|simp<;>omega) ?_ _|refine Qo ?_|refine Qp ?_ _|refine Qn ?_ ‹_›|refine Qm ?_ ‹_›)⟩
  ·
   go_wp2
   refine bodyPost_ret (v:= .agg #[.int .i64 (-1000000),.int .i64 (Y)]) (by simp[results, Tryz.results76,go_sem, *]) rfl ⟨⟨-1000000,Y⟩,rfl,⟨⟨by simp only;omega,by simp only;omega⟩,by simp only;omega,by simp only;omega⟩,(show RdL _ R (n+8) by(with_reducible repeat first|assumption|refine RdL.alloc ?_ _|refine RdL.drew ?_|refine RdL.drewN ?_ _|refine RdL.far ?_ (by first|omega|simp<;>omega) _|refine RdL.later ?_ ‹_›)).more (by omega),by(with_reducible repeat first|assumption|exact Ql _ _|refine Qk ?_ _|refine Qj (by first|omega|simp<;>omega) ?_ _|refine Qo ?_|refine Qp ?_ _|refine Qn ?_ ‹_›|refine Qm ?_ ‹_›)⟩
  ·
   go_wp2
   refine bodyPost_ret (v:= .agg #[.int .i64 (1000001),.int .i64 (Y)]) (by simp[results, Tryz.results76,go_sem, *]) rfl ⟨⟨1000001,Y⟩,rfl,⟨⟨by simp only;omega,by simp only;omega⟩,by simp only;omega,by simp only;omega⟩,(show RdL _ R (n+8) by(with_reducible repeat first|assumption|refine RdL.alloc ?_ _|refine RdL.drew ?_|refine RdL.drewN ?_ _|refine RdL.far ?_ (by first|omega|simp<;>omega) _|refine RdL.later ?_ ‹_›)).more (by omega),by(with_reducible repeat first|assumption|exact Ql _ _|refine Qk ?_ _|refine Qj (by first|omega|simp<;>omega) ?_ _|refine Qo ?_|refine Qp ?_ _|refine Qn ?_ ‹_›|refine Qm ?_ ‹_›)⟩
  ·
   go_wp2
   refine bodyPost_ret (v:= .agg #[.int .i64 (999999),.int .i64 (Y)]) (by simp[results, Tryz.results76,go_sem, *]) rfl ⟨⟨999999,Y⟩,rfl,⟨⟨by simp only;omega,by simp only;omega⟩,by simp only;omega,by simp only;omega⟩,(show RdL _ R (n+8) by(with_reducible repeat first|assumption|refine RdL.alloc ?_ _|refine RdL.drew ?_|refine RdL.drewN ?_ _|refine RdL.far ?_ (by first|omega|simp<;>omega) _|refine RdL.later ?_ ‹_›)).more (by omega),by(with_reducible repeat first|assumption|exact Ql _ _|refine Qk ?_ _|refine Qj (by first|omega|simp<;>omega) ?_ _|refine Qo ?_|refine Qp ?_ _|refine Qn ?_ ‹_›|refine Qm ?_ ‹_›)⟩
 have hpb0:(p == 0)=false:=by simpa using hp0
 by_cases hp1:p=1
 ·subst hp1
  have hx1: ¬((1:Int)=9):=by omega
  obtain⟨⟨zq0,zq1⟩,zqf⟩:=Z7.c2
  obtain⟨⟨vq0,vq1⟩,vqf⟩:=V7.c2
  go_wp2_with fail
  refine(Qz R (n+7) 4 _ (by(with_reducible repeat first|assumption|refine RdL.alloc ?_ _|refine RdL.drew ?_|refine RdL.drewN ?_ _|refine RdL.far ?_ (by first|omega|simp<;>omega) _|refine RdL.later ?_ ‹_›)) (by omega) (by omega) (by omega)).mono ?_
  rintro e w8 ⟨q,rfl,q_0,q_1,hR8,hg8⟩
  clear zq0 zq1 zqf vq0 vq1 vqf
  have Q8:Bk w8 w7.heap.size 3 #[.int .i64 1000000,.int .i64 (-1000000),.int .i64 (-1000001),.int .i64 999999]:=(Bk.new w7 _ _ rfl).grown hg8 (by intro e;injection e;omega)
  have V8:Bk w8 M 24 #[.int .i64 X,.int .i64 Y]:=by(repeat first|(with_reducible first|assumption|exact kN _ _ _ (by simp)|refine kA ?_ _|refine kD ?_|refine kW ?_ _|apply Bk.set'|refine kF ?_ (by simp<;>omega) _|refine kL ?_ ‹_›|refine kG ?_ ‹_› (by first|omega|simp<;>omega))|exact⟨by with_reducible rfl⟩|exact⟨by simp⟩)
  have Z8:Bk w8 w.heap.size 24 #[.int .i64 0,.int .i64 0]:=by(repeat first|(with_reducible first|assumption|exact kN _ _ _ (by simp)|refine kA ?_ _|refine kD ?_|refine kW ?_ _|apply Bk.set'|refine kF ?_ (by simp<;>omega) _|refine kL ?_ ‹_›|refine kG ?_ ‹_› (by first|omega|simp<;>omega))|exact⟨by with_reducible rfl⟩|exact⟨by simp⟩)
  have hgr8:w.grownBy w8 (some R):=by(with_reducible repeat first|assumption|exact Ql _ _|refine Qk ?_ _|refine Qj (by first|omega|simp<;>omega) ?_ _|refine Qo ?_|refine Qp ?_ _|refine Qn ?_ ‹_›|refine Qm ?_ ‹_›)
  have hsz8:=hgr8.size
  have hRl8:=hR8.lt
  have hg8s:=hg8.size
  simp only[World.size_alloc] at hg8s
  clear hg8 hgr7 hR7 Z7 V7
  obtain⟨⟨zq0,zq1⟩,zqf⟩:=Z8.c2
  obtain⟨⟨vq0,vq1⟩,vqf⟩:=V8.c2
  obtain⟨⟨q0,q1,q2,q3⟩,qf⟩:=Q8.c4
  rcases(show q=0∨q=1∨q=2∨q=3 by omega) with rfl|rfl|rfl|rfl
  ·
   go_wp2
   refine bodyPost_ret (v:= .agg #[.int .i64 (X),.int .i64 (1000000)]) (by simp[results, Tryz.results76,go_sem, *]) rfl ⟨⟨X,1000000⟩,rfl,⟨⟨by simp only;omega,by simp only;omega⟩,by simp only;omega,by simp only;omega⟩,(show RdL _ R (n+8) by(with_reducible repeat first|assumption|refine RdL.alloc ?_ _|refine RdL.drew ?_|refine RdL.drewN ?_ _|refine RdL.far ?_ (by first|omega|simp<;>omega) _|refine RdL.later ?_ ‹_›)).more (by omega),by(with_reducible repeat first|assumption|exact Ql _ _|refine Qk ?_ _|refine Qj (by first|omega|simp<;>omega) ?_ _|refine Qo ?_|refine Qp ?_ _|refine Qn ?_ ‹_›|refine Qm ?_ ‹_›)⟩
  ·
   go_wp2
   refine bodyPost_ret (v:= .agg #[.int .i64 (X),.int .i64 (-1000000)]) (by simp[results, Tryz.results76,go_sem, *]) rfl ⟨⟨X, -1000000⟩,rfl,⟨⟨by simp only;omega,by simp only;omega⟩,by simp only;omega,by simp only;omega⟩,(show RdL _ R (n+8) by(with_reducible repeat first|assumption|refine RdL.alloc ?_ _|refine RdL.drew ?_|refine RdL.drewN ?_ _|refine RdL.far ?_ (by first|omega|simp<;>omega) _|refine RdL.later ?_ ‹_›)).more (by omega),by(with_reducible repeat first|assumption|exact Ql _ _|refine Qk ?_ _|refine Qj (by first|omega|simp<;>omega) ?_ _|refine Qo ?_|refine Qp ?_ _|refine Qn ?_ ‹_›|refine Qm ?_ ‹_›)⟩
  ·
   go_wp2
   refine bodyPost_ret (v:= .agg #[.int .i64 (X),.int .i64 (-1000001)]) (by simp[results, Tryz.results76,go_sem, *]) rfl ⟨⟨X, -1000001⟩,rfl,⟨⟨by simp only;omega,by simp only;omega⟩,by simp only;omega,by simp only;omega⟩,(show RdL _ R (n+8) by(with_reducible repeat first|assumption|refine RdL.alloc ?_ _|refine RdL.drew ?_|refine RdL.drewN ?_ _|refine RdL.far ?_ (by first|omega|simp<;>omega) _|refine RdL.later ?_ ‹_›)).more (by omega),by(with_reducible repeat first|assumption|exact Ql _ _|refine Qk ?_ _|refine Qj (by first|omega|simp<;>omega) ?_ _|refine Qo ?_|refine Qp ?_ _|refine Qn ?_ ‹_›|refine Qm ?_ ‹_›)⟩
  ·
   go_wp2
   refine bodyPost_ret (v:= .agg #[.int .i64 (X),.int .i64 (999999)]) (by simp[results, Tryz.results76,go_sem, *]) rfl ⟨⟨X,999999⟩,rfl,⟨⟨by simp only;omega,by simp only;omega⟩,by simp only;omega,by simp only;omega⟩,(show RdL _ R (n+8) by(with_reducible repeat first|assumption|refine RdL.alloc ?_ _|refine RdL.drew ?_|refine RdL.drewN ?_ _|refine RdL.far ?_ (by first|omega|simp<;>omega) _|refine RdL.later ?_ ‹_›)).more (by omega),by(with_reducible repeat first|assumption|exact Ql _ _|refine Qk ?_ _|refine Qj (by first|omega|simp<;>omega) ?_ _|refine Qo ?_|refine Qp ?_ _|refine Qn ?_ ‹_›|refine Qm ?_ ‹_›)⟩
 have hpb1:(p == 1)=false:=by simpa using hp1
 by_cases hp2:p=2
 ·subst hp2
  obtain⟨⟨zq0,zq1⟩,zqf⟩:=Z7.c2
  obtain⟨⟨vq0,vq1⟩,vqf⟩:=V7.c2
  go_wp2
  refine bodyPost_ret (v:= .agg #[.int .i64 (0),.int .i64 (0)]) (by simp[results, Tryz.results76,go_sem, *]) rfl ⟨⟨0,0⟩,rfl,⟨⟨by simp only;omega,by simp only;omega⟩,by simp only;omega,by simp only;omega⟩,(show RdL _ R (n+7) by(with_reducible repeat first|assumption|refine RdL.alloc ?_ _|refine RdL.drew ?_|refine RdL.drewN ?_ _|refine RdL.far ?_ (by first|omega|simp<;>omega) _|refine RdL.later ?_ ‹_›)).more (by omega),by(with_reducible repeat first|assumption|exact Ql _ _|refine Qk ?_ _|refine Qj (by first|omega|simp<;>omega) ?_ _|refine Qo ?_|refine Qp ?_ _|refine Qn ?_ ‹_›|refine Qm ?_ ‹_›)⟩
 ·
  have hpb2:(p == 2)=false:=by simpa using hp2
  obtain⟨⟨zq0,zq1⟩,zqf⟩:=Z7.c2
  obtain⟨⟨vq0,vq1⟩,vqf⟩:=V7.c2
  go_wp2
  refine bodyPost_ret (v:= .agg #[.int .i64 (X),.int .i64 (Y)]) (by simp[results, Tryz.results76,go_sem, *]) rfl ⟨⟨X,Y⟩,rfl,⟨⟨by simp only;omega,by simp only;omega⟩,by simp only;omega,by simp only;omega⟩,(show RdL _ R (n+7) by(with_reducible repeat first|assumption|refine RdL.alloc ?_ _|refine RdL.drew ?_|refine RdL.drewN ?_ _|refine RdL.far ?_ (by first|omega|simp<;>omega) _|refine RdL.later ?_ ‹_›)).more (by omega),by(with_reducible repeat first|assumption|exact Ql _ _|refine Qk ?_ _|refine Qj (by first|omega|simp<;>omega) ?_ _|refine Qo ?_|refine Qp ?_ _|refine Qn ?_ ‹_›|refine Qm ?_ ‹_›)⟩
def smB(b:Bx):Prop:=(-1010000≤b.lo.x∧b.lo.x≤1010000)∧(-1010000≤b.lo.y∧b.lo.y≤1010000)∧(-1010000≤b.hi.x∧b.hi.x≤1010000)∧(-1010000≤b.hi.y∧b.hi.y≤1010000)
def Ql9(R n:Nat)(w:World)(e:Ending)(w':World):Prop:=∃b:Bx,e= .returned (.agg #[.int .i64 b.lo.x,.int .i64 b.lo.y,.int .i64 b.hi.x,.int .i64 b.hi.y])∧smB b∧RdL w' R n∧w.grownBy w' (some R)
theorem Qqw{w:World}{g:Nat}{t:TypeId}{a b c d u v:Value}(h:Bk w g t #[a,b,c,d])(hv:some a=some v):(w.setCell ⟨g,2,none⟩ u).cell? ⟨g,0,none⟩=some v:=by rw[(h.set_ 2 u).cell];exact hv
theorem Qqx{w:World}{g i:Nat}{t:TypeId}{cs:Array Value}{v:Value}(h:Bk w g t cs)(hv:cs[i]? =some v):w.cell? ⟨g,i,none⟩=some v:=by rw[h.cell];exact hv
set_option maxRecDepth 100000 in
set_option maxHeartbeats 4000000 in
theorem QdJ(R n:Nat)(w:World)(h:RdL w R n)(hn:n≤800000):Calls Sq.prog 77 #[.pointer (some ⟨R,0,none⟩)] w (Ql9 R (n+12) w):=by
 have hRl:=h.lt
 go_enter Sq.func77, Tryz.ntmps77
 go_wp2_with fail
 refine(QeF R n _ (by(with_reducible repeat first|assumption|refine RdL.alloc ?_ _|refine RdL.drew ?_|refine RdL.drewN ?_ _|refine RdL.far ?_ (by first|omega|simp<;>omega) _|refine RdL.later ?_ ‹_›)) (by omega)).mono ?_
 rintro e w1 ⟨v,rfl,hv,hR1,hg1⟩
 obtain⟨⟨v0,v1⟩,v2,v3⟩:=hv
 have Z1:Bk w1 w.heap.size 27 #[.int .i64 0,.int .i64 0,.int .i64 0,.int .i64 0]:=by(repeat first|(with_reducible first|assumption|exact kN _ _ _ (by simp)|refine kA ?_ _|refine kD ?_|refine kW ?_ _|apply Bk.set'|refine kF ?_ (by simp<;>omega) _|refine kL ?_ ‹_›|refine kG ?_ ‹_› (by first|omega|simp<;>omega))|exact⟨by with_reducible rfl⟩|exact⟨by simp⟩)
 have hgr1:w.grownBy w1 (some R):=by(with_reducible repeat first|assumption|exact Ql _ _|refine Qk ?_ _|refine Qj (by first|omega|simp<;>omega) ?_ _|refine Qo ?_|refine Qp ?_ _|refine Qn ?_ ‹_›|refine Qm ?_ ‹_›)
 have hsz1:=hgr1.size
 have hRl1:=hR1.lt
 have hg1s:=hg1.size
 simp only[World.size_alloc] at hg1s
 clear hg1
 obtain⟨x,y⟩:=v
 simp only at*
 generalize hM:w1.heap.size=M at*
 go_upto_region 2 with fail
 go_cut [4] from 5 (fun bp wc=>∃(N:Nat) (p q:Int),bp= .pointer (some ⟨N,0,none⟩)∧(0≤p∧p<50)∧(0≤q∧q<50)∧w.heap.size<N∧Bk wc N 27 #[.int .i64 x,.int .i64 y,.int .i64 (x+p*100),.int .i64 (y+q*100)]∧Bk wc w.heap.size 27 #[.int .i64 0,.int .i64 0,.int .i64 0,.int .i64 0]∧RdL wc R (n+8+1+1)∧w.grownBy wc (some R))
 case first=>
  refine Xq (fun W=>Bk W M 24 #[.int .i64 x,.int .i64 y]∧Bk W w.heap.size 27 #[.int .i64 0,.int .i64 0,.int .i64 0,.int .i64 0]∧RdL W R (n+8)∧w.grownBy W (some R)) ⟨Bk.new w1 _ _ hM,Z1.alloc _,hR1.alloc _,Qk hgr1 _⟩ ?_
  clear Z1 hR1 hgr1 hM
  rintro W ⟨VW,ZW,hRW,hgW⟩
  have zV:=VW.lt
  have zR:=hRW.lt
  go_region_held3 (fun w'=>w'.cell? ⟨M,0,none⟩=some (.int .i64 x)∧w'.cell? ⟨M,1,none⟩=some (.int .i64 y))
   (exact Qcf (t:=24) (by(repeat first|(with_reducible first|assumption|exact kN _ _ _ (by simp)|refine kA ?_ _|refine kD ?_|refine kW ?_ _|apply Bk.set'|refine kF ?_ (by simp<;>omega) _|refine kL ?_ ‹_›|refine kG ?_ ‹_› (by first|omega|simp<;>omega))|exact⟨by with_reducible rfl⟩|exact⟨by simp⟩)))
   (first
   |(have hq2:=hR2;go_simp;go_at_call 30;refine(Qz R (n+8+1) 50 _ (by(with_reducible repeat first|assumption|refine RdL.alloc ?_ _|refine RdL.drew ?_|refine RdL.drewN ?_ _|refine RdL.far ?_ (by first|omega|simp<;>omega) _|refine RdL.later ?_ ‹_›)) (by omega) (by omega) (by omega)).mono ?_;rintro e w3 ⟨q,rfl,q0,q1,hR3,hg3⟩;have zR3:=hR3.lt;have hs3:w2.heap.size≤w3.heap.size:=(by have:=hg3.size;first|omega|(simp at this;omega));have f4:IntKind.i64.wrap (q*100)=q*100:=IntWalk.i64_in _ (by omega);have f5:IntKind.i64.wrap (y+q*100)=y+q*100:=IntWalk.i64_in _ (by omega);(first|(have Q3:Bk w3 W.heap.size 27 #[.int .i64 0,.int .i64 0,.int .i64 0,.int .i64 0]:=Q2.grown hg3 (by intro e;injection e;omega);have zQ3:=Q3.lt;obtain⟨⟨qq0,qq1,qq2,qq3⟩,qqf⟩:=Q3.c4)|(have Q3:Bk w3 w2.heap.size 27 #[.int .i64 0,.int .i64 0,.int .i64 0,.int .i64 0]:=(Bk.new w2 _ _ rfl).grown hg3 (by intro e;injection e;omega);have zQ3:=Q3.lt;obtain⟨⟨qq0,qq1,qq2,qq3⟩,qqf⟩:=Q3.c4)|skip))
   |(go_simp;go_at_call 30;refine(Qz R (n+8) 50 _ (by(with_reducible repeat first|assumption|refine RdL.alloc ?_ _|refine RdL.drew ?_|refine RdL.drewN ?_ _|refine RdL.far ?_ (by first|omega|simp<;>omega) _|refine RdL.later ?_ ‹_›)) (by omega) (by omega) (by omega)).mono ?_;rintro e w2 ⟨p,rfl,p0,p1,hR2,hg2⟩;have zR2:=hR2.lt;have hs2:W.heap.size≤w2.heap.size:=(by have:=hg2.size;first|omega|(simp at this;omega));have f2:IntKind.i64.wrap (p*100)=p*100:=IntWalk.i64_in _ (by omega);have f3:IntKind.i64.wrap (x+p*100)=x+p*100:=IntWalk.i64_in _ (by omega);(first|(have Q2:Bk w2 W.heap.size 27 #[.int .i64 0,.int .i64 0,.int .i64 0,.int .i64 0]:=(Bk.new W _ _ rfl).grown hg2 (by intro e;injection e;omega))|(have Q2:Bk w2 W.heap.size 27 #[.int .i64 0,.int .i64 0,.int .i64 0,.int .i64 0]:=(Bk.new W.drew _ _ rfl).grown hg2 (by intro e;injection e;omega))|(have Q2:Bk w2 W.heap.size 27 #[.int .i64 0,.int .i64 0,.int .i64 0,.int .i64 0]:=((Bk.new W _ _ rfl).drew).grown hg2 (by intro e;injection e;omega))|skip)))
  all_goals
   have hsz3:=(show w.grownBy w3 (some R) by(with_reducible repeat first|assumption|exact Ql _ _|refine Qk ?_ _|refine Qj (by first|omega|simp<;>omega) ?_ _|refine Qo ?_|refine Qp ?_ _|refine Qn ?_ ‹_›|refine Qm ?_ ‹_›)).size
   go_wp2_with fail
   go_meet
   exact⟨_,p,q,rfl,⟨p0,p1⟩,⟨q0,q1⟩,by first|omega|(simp;omega),by(repeat first|(with_reducible first|assumption|exact kN _ _ _ (by simp)|refine kA ?_ _|refine kD ?_|refine kW ?_ _|apply Bk.set'|refine kF ?_ (by simp<;>omega) _|refine kL ?_ ‹_›|refine kG ?_ ‹_› (by first|omega|simp<;>omega))|exact⟨by with_reducible rfl⟩|exact⟨by simp⟩),by(repeat first|(with_reducible first|assumption|exact kN _ _ _ (by simp)|refine kA ?_ _|refine kD ?_|refine kW ?_ _|apply Bk.set'|refine kF ?_ (by simp<;>omega) _|refine kL ?_ ‹_›|refine kG ?_ ‹_› (by first|omega|simp<;>omega))|exact⟨by with_reducible rfl⟩|exact⟨by simp⟩),by(with_reducible repeat first|assumption|refine RdL.alloc ?_ _|refine RdL.drew ?_|refine RdL.drewN ?_ _|refine RdL.far ?_ (by first|omega|simp<;>omega) _|refine RdL.later ?_ ‹_›),by(with_reducible repeat first|assumption|exact Ql _ _|refine Qk ?_ _|refine Qj (by first|omega|simp<;>omega) ?_ _|refine Qo ?_|refine Qp ?_ _|refine Qn ?_ ‹_›|refine Qm ?_ ‹_›)⟩
 case rest=>
 obtain⟨N,p,q,rfl,⟨p0,p1⟩,⟨q0,q1⟩,hN,B3,Z3,hR3,hgr3⟩:=hcut
 clear Z1 hR1 hgr1 hM
 rename_i w3
 have hg3s:=hgr3.size
 have zB3:=B3.lt
 have zZ3:=Z3.lt
 go_wp2_with fail
 refine(Qz R (n+8+1+1) 16 _ (by(with_reducible repeat first|assumption|refine RdL.alloc ?_ _|refine RdL.drew ?_|refine RdL.drewN ?_ _|refine RdL.far ?_ (by first|omega|simp<;>omega) _|refine RdL.later ?_ ‹_›)) (by omega) (by omega) (by omega)).mono ?_
 rintro e w4 ⟨r,rfl,r0,r1,hR4,hg4⟩
 have hRl3:=hR3.lt
 have B4:Bk w4 N 27 #[.int .i64 x,.int .i64 y,.int .i64 (x+p*100),.int .i64 (y+q*100)]:=by(repeat first|(with_reducible first|assumption|exact kN _ _ _ (by simp)|refine kA ?_ _|refine kD ?_|refine kW ?_ _|apply Bk.set'|refine kF ?_ (by simp<;>omega) _|refine kL ?_ ‹_›|refine kG ?_ ‹_› (by first|omega|simp<;>omega))|exact⟨by with_reducible rfl⟩|exact⟨by simp⟩)
 have Z4:Bk w4 w.heap.size 27 #[.int .i64 0,.int .i64 0,.int .i64 0,.int .i64 0]:=by(repeat first|(with_reducible first|assumption|exact kN _ _ _ (by simp)|refine kA ?_ _|refine kD ?_|refine kW ?_ _|apply Bk.set'|refine kF ?_ (by simp<;>omega) _|refine kL ?_ ‹_›|refine kG ?_ ‹_› (by first|omega|simp<;>omega))|exact⟨by with_reducible rfl⟩|exact⟨by simp⟩)
 have hgr4:w.grownBy w4 (some R):=by(with_reducible repeat first|assumption|exact Ql _ _|refine Qk ?_ _|refine Qj (by first|omega|simp<;>omega) ?_ _|refine Qo ?_|refine Qp ?_ _|refine Qn ?_ ‹_›|refine Qm ?_ ‹_›)
 have hsz4:=hgr4.size
 have hRl4:=hR4.lt
 have zB4:=B4.lt
 have zZ4:=Z4.lt
 clear hg4 Z3 B3 hgr3 hR3 zB3 zZ3
 by_cases hr:r=0
 ·subst hr
  go_wp2
  go_region_held3 (fun w'=>w'.cell? ⟨N,0,none⟩=some (.int .i64 x))
   (first|(with_reducible exact Qqw B5 rfl)|exact Qqx (t:=27) (cs:=#[.int .i64 x,.int .i64 y,.int .i64 (x+p*100),.int .i64 (y+q*100)]) (by(repeat first|(with_reducible first|assumption|exact kN _ _ _ (by simp)|refine kA ?_ _|refine kD ?_|refine kW ?_ _|apply Bk.set'|refine kF ?_ (by simp<;>omega) _|refine kL ?_ ‹_›|refine kG ?_ ‹_› (by first|omega|simp<;>omega))|exact⟨by with_reducible rfl⟩|exact⟨by simp⟩)) rfl)
   (first
   |(go_simp;go_at_call 30;refine(Qz R (n+8+1+1+1) 3 _ (by first|exact hR4|exact hR4.drew) (by omega) (by omega) (by omega)).mono ?_;rintro e w5 ⟨u,rfl,u0,u1,hR5,hg5⟩;have zR5:=hR5.lt;have f6:IntKind.i64.wrap (x - u)=x - u:=IntWalk.i64_in _ (by omega);have B5:Bk w5 N 27 #[.int .i64 x,.int .i64 y,.int .i64 (x+p*100),.int .i64 (y+q*100)]:=(by(repeat first|(with_reducible first|assumption|exact kN _ _ _ (by simp)|refine kA ?_ _|refine kD ?_|refine kW ?_ _|apply Bk.set'|refine kF ?_ (by simp<;>omega) _|refine kL ?_ ‹_›|refine kG ?_ ‹_› (by first|omega|simp<;>omega))|exact⟨by with_reducible rfl⟩|exact⟨by simp⟩));have Z5:Bk w5 w.heap.size 27 #[.int .i64 0,.int .i64 0,.int .i64 0,.int .i64 0]:=(by(repeat first|(with_reducible first|assumption|exact kN _ _ _ (by simp)|refine kA ?_ _|refine kD ?_|refine kW ?_ _|apply Bk.set'|refine kF ?_ (by simp<;>omega) _|refine kL ?_ ‹_›|refine kG ?_ ‹_› (by first|omega|simp<;>omega))|exact⟨by with_reducible rfl⟩|exact⟨by simp⟩));have hgr5:w.grownBy w5 (some R):=(by(with_reducible repeat first|assumption|exact Ql _ _|refine Qk ?_ _|refine Qj (by first|omega|simp<;>omega) ?_ _|refine Qo ?_|refine Qp ?_ _|refine Qn ?_ ‹_›|refine Qm ?_ ‹_›));have zB5:=B5.lt;have zZ5:=Z5.lt;obtain⟨⟨b0,b1,b2,b3⟩,bf⟩:=B5.c4;obtain⟨⟨z0,z1,z2,z3⟩,zf⟩:=Z5.c4))
  go_wp2
  refine bodyPost_ret (v:= .agg #[.int .i64 x,.int .i64 y,.int .i64 (x - u),.int .i64 (y+q*100)]) (by simp[results, Tryz.results77,go_sem, *]) rfl ⟨⟨⟨x,y⟩,⟨x - u,y+q*100⟩⟩,rfl,by unfold smB;simp only;omega,(show RdL _ R (n+8+1+1+1+1) by(with_reducible repeat first|assumption|refine RdL.alloc ?_ _|refine RdL.drew ?_|refine RdL.drewN ?_ _|refine RdL.far ?_ (by first|omega|simp<;>omega) _|refine RdL.later ?_ ‹_›)).more (by omega),by(with_reducible repeat first|assumption|exact Ql _ _|refine Qk ?_ _|refine Qj (by first|omega|simp<;>omega) ?_ _|refine Qo ?_|refine Qp ?_ _|refine Qn ?_ ‹_›|refine Qm ?_ ‹_›)⟩
 ·have hrb:(r == 0)=false:=by simpa using hr
  obtain⟨⟨b0,b1,b2,b3⟩,bf⟩:=B4.c4
  obtain⟨⟨z0,z1,z2,z3⟩,zf⟩:=Z4.c4
  go_wp2
  refine bodyPost_ret (v:= .agg #[.int .i64 x,.int .i64 y,.int .i64 (x+p*100),.int .i64 (y+q*100)]) (by simp[results, Tryz.results77,go_sem, *]) rfl ⟨⟨⟨x,y⟩,⟨x+p*100,y+q*100⟩⟩,rfl,by unfold smB;simp only;omega,(show RdL _ R (n+8+1+1+1) by(with_reducible repeat first|assumption|refine RdL.alloc ?_ _|refine RdL.drew ?_|refine RdL.drewN ?_ _|refine RdL.far ?_ (by first|omega|simp<;>omega) _|refine RdL.later ?_ ‹_›)).more (by omega),by(with_reducible repeat first|assumption|exact Ql _ _|refine Qk ?_ _|refine Qj (by first|omega|simp<;>omega) ?_ _|refine Qo ?_|refine Qp ?_ _|refine Qn ?_ ‹_›|refine Qm ?_ ‹_›)⟩
def Ql8(R n:Nat)(w:World)(e:Ending)(w':World):Prop:=
 ∃(l:Lev) (A A':Option Addr) (c c':Nat),e= .returned (.agg #[.int .i64 l.id,.int .i64 l.ticks,.int .i64 l.start.x,.int .i64 l.start.y,.slice A l.walls.length c,.slice A' l.gates.length c',.int .i64 l.fin.lo.x,.int .i64 l.fin.lo.y,.int .i64 l.fin.hi.x,.int .i64 l.fin.hi.y,.int .i64 l.bans])∧(l.walls.length≤10∧l.gates.length≤10)∧Sl w' 4 Qc A l.walls.length l.walls∧Sl w' 4 Qc A' l.gates.length l.gates∧(A=none→c=0)∧(A'=none→c'=0)∧(∀a,A=some a→R<a.block)∧(∀a,A'=some a→R<a.block)∧RdL w' R n∧w.grownBy w' (some R)
structure XJ(l:Lev)(A A':Option Addr)(c c':Nat)(R n:Nat)(l2:Array Value)(w u:World):Prop where
 L:Bk u w.heap.size 29 l2
 Z:Bk u (w.heap.size+1) 29 #[.int .i64 0,.int .i64 0,.int .i64 0,.int .i64 0,.slice none 0 0,.slice none 0 0,.int .i64 0,.int .i64 0,.int .i64 0,.int .i64 0,.int .i64 0]
 W:Sl u 4 Qc A l.walls.length l.walls
 G:Sl u 4 Qc A' l.gates.length l.gates
 r:RdL u R n
 g:w.grownBy u (some R)
theorem XJ.rd{l:Lev}{A A':Option Addr}{c c' R n m:Nat}{l2:Array Value}{w u u':World}(h:XJ l A A' c c' R n l2 w u)(hR:R<w.heap.size)(hA: ∀a,A=some a→R<a.block)(hA': ∀a,A'=some a→R<a.block)(hg:u.grownBy u' (some R))(hr:RdL u' R m):XJ l A A' c c' R m l2 w u':=
 ⟨h.L.grown hg (by intro e;injection e;omega),h.Z.grown hg (by intro e;injection e;omega),h.W.grown hg (fun a e e2=>by injection e2 with e2;have:=hA a e;omega),h.G.grown hg (fun a e e2=>by injection e2 with e2;have:=hA' a e;omega),hr,Qn h.g hg⟩
theorem XJ.below{l:Lev}{A A':Option Addr}{c c' R n:Nat}{l2:Array Value}{w u u':World}(h:XJ l A A' c c' R n l2 w u)(hb:Below u.heap.size u u'):XJ l A A' c c' R n l2 w u':=
 ⟨h.L.later hb,h.Z.later hb,h.W.below hb,h.G.below hb,h.r.later hb,Qm h.g hb⟩
theorem XJ.alloc{l:Lev}{A A':Option Addr}{c c' R n:Nat}{l2:Array Value}{w u:World}(h:XJ l A A' c c' R n l2 w u)(o:Obj):XJ l A A' c c' R n l2 w (u.alloc o):=h.below (Qf (Below.refl _ _) o)
theorem XJ.own{l:Lev}{A A':Option Addr}{c c' R n:Nat}{l2:Array Value}{w u u':World}{row:Option Nat}(h:XJ l A A' c c' R n l2 w u)(hR:R<w.heap.size)(hA: ∀a,A=some a→a.block<w.heap.size)(hA': ∀a,A'=some a→a.block<w.heap.size)(hg:u.grownBy u' row)(hrow: ∀g,row=some g→w.heap.size+2≤g):XJ l A A' c c' R n l2 w u':=
 ⟨h.L.grown hg (by intro e;have:=hrow _ e.symm;omega),h.Z.grown hg (by intro e;have:=hrow _ e.symm;omega),h.W.grown hg (fun a e e2=>by have:=hrow _ e2;have:=hA a e;omega),h.G.grown hg (fun a e e2=>by have:=hrow _ e2;have:=hA' a e;omega),h.r.own hg (fun g e=>by have:=hrow g e;omega),JP h.g hg (fun g e=>by have:=hrow g e;omega)⟩
theorem XJ.more{l:Lev}{A A':Option Addr}{c c' R n m:Nat}{l2:Array Value}{w u:World}(h:XJ l A A' c c' R n l2 w u)(hm:n≤m):XJ l A A' c c' R m l2 w u:=⟨h.L,h.Z,h.W,h.G,h.r.more hm,h.g⟩
theorem Sl.far'{α:Type}{w:World}{sz:Nat}{enc:α→List Value}{A:Option Addr}{n:Nat}{l:List α}{p:Addr}(h:Sl w sz enc A n l)(hA: ∀a,A=some a→a.block≠p.block)(v:Value):Sl (w.setCell p v) sz enc A n l:=h.grown (Qf4 w p v) (fun a e e2=>by injection e2 with e2;exact hA a e e2.symm)
theorem Sl.setsB{B:Nat}{w u:World}{A:Option Addr}{m:Nat}{l:List Bx}(h:Sl w 4 Qc A m l)(hb:Below B w u)(hA: ∀a,A=some a→a.block<B):Sl u 4 Qc A m l:=⟨h.1,fun hn=>by
 obtain⟨b,off,e,hlt,hc⟩:=h.2 hn
 exact⟨b,off,e,Nat.lt_of_lt_of_le hlt hb.size,fun k x hk j v hv=>(hb.cell (show b<B from hA _ e)).trans (hc k x hk j v hv)⟩⟩
set_option maxRecDepth 100000 in
set_option maxHeartbeats 8000000 in
theorem Qcj(l:Lev)(A A':Option Addr)(c c':Nat)(R n:Nat)(w:World)(h:RdL w R n)(hn:n≤700000)(hwl:l.walls.length≤4)(hgl:l.gates.length≤4)(hW:Sl w 4 Qc A l.walls.length l.walls)(hG:Sl w 4 Qc A' l.gates.length l.gates)(hc:A=none→c=0)(hc':A'=none→c'=0)
 (hA: ∀a,A=some a→R<a.block∧a.block<w.heap.size)(hA': ∀a,A'=some a→R<a.block∧a.block<w.heap.size):
 Calls Sq.prog 33 #[.pointer (some ⟨R,0,none⟩),.agg #[.int .i64 l.id,.int .i64 l.ticks,.int .i64 l.start.x,.int .i64 l.start.y,.slice A l.walls.length c,.slice A' l.gates.length c',.int .i64 l.fin.lo.x,.int .i64 l.fin.lo.y,.int .i64 l.fin.hi.x,.int .i64 l.fin.hi.y,.int .i64 l.bans]] w (Ql8 R (n+30) w):=by
 have hRl:=h.lt
 have hAR:=fun a e=>(hA a e).1
 have hAR':=fun a e=>(hA' a e).1
 have hAw:=fun a e=>(hA a e).2
 have hAw':=fun a e=>(hA' a e).2
 obtain⟨i0,hi,hz0,hz1,hz2⟩:=info_parts Sq.infoBx
 go_enter Sq.func33, Tryz.ntmps33
 go_wp2_with fail
 refine(Qz R n 24 _ (by(with_reducible repeat first|assumption|refine RdL.alloc ?_ _|refine RdL.drew ?_|refine RdL.drewN ?_ _|refine RdL.far ?_ (by first|omega|simp<;>omega) _|refine RdL.later ?_ ‹_›)) (by omega) (by omega) (by omega)).mono ?_
 rintro e w1 ⟨p,rfl,p_0,p_1,hR1,hg1⟩
 have S1:XJ l A A' c c' R (n+1) #[.int .i64 l.id,.int .i64 l.ticks,.int .i64 l.start.x,.int .i64 l.start.y,.slice A l.walls.length c,.slice A' l.gates.length c',.int .i64 l.fin.lo.x,.int .i64 l.fin.lo.y,.int .i64 l.fin.hi.x,.int .i64 l.fin.hi.y,.int .i64 l.bans] w w1:=⟨by(repeat first|(with_reducible first|assumption|exact kN _ _ _ (by simp)|refine kA ?_ _|refine kD ?_|refine kW ?_ _|apply Bk.set'|refine kF ?_ (by simp<;>omega) _|refine kL ?_ ‹_›|refine kG ?_ ‹_› (by first|omega|simp<;>omega))|exact⟨by with_reducible rfl⟩|exact⟨by simp⟩),by(repeat first|(with_reducible first|assumption|exact kN _ _ _ (by simp)|refine kA ?_ _|refine kD ?_|refine kW ?_ _|apply Bk.set'|refine kF ?_ (by simp<;>omega) _|refine kL ?_ ‹_›|refine kG ?_ ‹_› (by first|omega|simp<;>omega))|exact⟨by with_reducible rfl⟩|exact⟨by simp⟩),((hW.below (Qf (Below.refl _ _) _)).below (Qf (Below.refl _ _) _)).grown hg1 (fun a e e2=>by injection e2 with e2;have:=hAR a e;omega),((hG.below (Qf (Below.refl _ _) _)).below (Qf (Below.refl _ _) _)).grown hg1 (fun a e e2=>by injection e2 with e2;have:=hAR' a e;omega),hR1,by(with_reducible repeat first|assumption|exact Ql _ _|refine Qk ?_ _|refine Qj (by first|omega|simp<;>omega) ?_ _|refine Qo ?_|refine Qp ?_ _|refine Qn ?_ ‹_›|refine Qm ?_ ‹_›)⟩
 have hs1:=S1.g.size
 have zL1:=S1.L.lt
 have zZ1:=S1.Z.lt
 clear hg1 hR1 hW hG h
 by_cases hp0:p=0
 ·subst hp0
  obtain⟨⟨l0,l1,l2,l3,l4,l5,l6,l7,l8,l9,l10⟩,lf⟩:=S1.L.c11;obtain⟨⟨z0,z1,z2,z3,z4,z5,z6,z7,z8,z9,z10⟩,zf⟩:=S1.Z.c11
  go_wp2_with fail
  refine(Qz R (n+1) 3 _ (S1.r.alloc _) (by omega) (by omega) (by omega)).mono ?_
  rintro e w2 ⟨q,rfl,q_0,q_1,hR2,hg2⟩
  clear l0 l1 l2 l3 l4 l5 l6 l7 l8 l9 l10 lf z0 z1 z2 z3 z4 z5 z6 z7 z8 z9 z10 zf
  have Q2:Bk w2 w1.heap.size 3 #[.int .i64 (-1),.int .i64 99,.int .i64 100]:=(Bk.new w1 _ _ rfl).grown hg2 (by intro e;injection e;omega)
  have zQ2:=Q2.lt
  have S2:=(S1.alloc (.cells #[.int .i64 (-1),.int .i64 99,.int .i64 100] 3)).rd hRl hAR hAR' hg2 hR2
  clear S1 hg2 hR2
  have hs2:=S2.g.size;have zL2:=S2.L.lt;have zZ2:=S2.Z.lt
  obtain⟨⟨l0,l1,l2,l3,l4,l5,l6,l7,l8,l9,l10⟩,lf⟩:=S2.L.c11;obtain⟨⟨z0,z1,z2,z3,z4,z5,z6,z7,z8,z9,z10⟩,zf⟩:=S2.Z.c11
  obtain⟨⟨q0,q1,q2⟩,qf⟩:=Q2.c3
  rcases(show q=0∨q=1∨q=2 by omega) with rfl|rfl|rfl
  ·
   have hrk:=S2.r;have hgk:=S2.g
   go_wp2
   refine bodyPost_ret (v:= .agg #[.int .i64 (-1),.int .i64 l.ticks,.int .i64 l.start.x,.int .i64 l.start.y,.slice A l.walls.length c,.slice A' l.gates.length c',.int .i64 l.fin.lo.x,.int .i64 l.fin.lo.y,.int .i64 l.fin.hi.x,.int .i64 l.fin.hi.y,.int .i64 l.bans]) (by simp[results, Tryz.results33,go_sem, *]) rfl ⟨⟨(-1),l.ticks,l.start,l.walls,l.gates,l.fin,l.bans⟩,A,A',c,c',rfl,⟨(show l.walls.length≤10 by omega),(show l.gates.length≤10 by omega)⟩,?_,?_,hc,hc',hAR,hAR',(show RdL _ R (n+2) by(with_reducible repeat first|assumption|refine RdL.alloc ?_ _|refine RdL.drew ?_|refine RdL.drewN ?_ _|refine RdL.far ?_ (by first|omega|simp<;>omega) _|refine RdL.later ?_ ‹_›)).more (by omega),?_⟩
   ·exact Sl.setsB (B:=w.heap.size) S2.W (by(with_reducible repeat first|assumption|apply bl0|apply blA|apply blD|apply blN|refine blF ?_ ‹_›|(apply blS;(simp<;>omega)))) hAw
   ·exact Sl.setsB (B:=w.heap.size) S2.G (by(with_reducible repeat first|assumption|apply bl0|apply blA|apply blD|apply blN|refine blF ?_ ‹_›|(apply blS;(simp<;>omega)))) hAw'
   · (with_reducible repeat first|assumption|exact Ql _ _|refine Qk ?_ _|refine Qj (by first|omega|simp<;>omega) ?_ _|refine Qo ?_|refine Qp ?_ _|refine Qn ?_ ‹_›|refine Qm ?_ ‹_›)
  ·
   have hrk:=S2.r;have hgk:=S2.g
   go_wp2
   refine bodyPost_ret (v:= .agg #[.int .i64 (99),.int .i64 l.ticks,.int .i64 l.start.x,.int .i64 l.start.y,.slice A l.walls.length c,.slice A' l.gates.length c',.int .i64 l.fin.lo.x,.int .i64 l.fin.lo.y,.int .i64 l.fin.hi.x,.int .i64 l.fin.hi.y,.int .i64 l.bans]) (by simp[results, Tryz.results33,go_sem, *]) rfl ⟨⟨(99),l.ticks,l.start,l.walls,l.gates,l.fin,l.bans⟩,A,A',c,c',rfl,⟨(show l.walls.length≤10 by omega),(show l.gates.length≤10 by omega)⟩,?_,?_,hc,hc',hAR,hAR',(show RdL _ R (n+2) by(with_reducible repeat first|assumption|refine RdL.alloc ?_ _|refine RdL.drew ?_|refine RdL.drewN ?_ _|refine RdL.far ?_ (by first|omega|simp<;>omega) _|refine RdL.later ?_ ‹_›)).more (by omega),?_⟩
   ·exact Sl.setsB (B:=w.heap.size) S2.W (by(with_reducible repeat first|assumption|apply bl0|apply blA|apply blD|apply blN|refine blF ?_ ‹_›|(apply blS;(simp<;>omega)))) hAw
   ·exact Sl.setsB (B:=w.heap.size) S2.G (by(with_reducible repeat first|assumption|apply bl0|apply blA|apply blD|apply blN|refine blF ?_ ‹_›|(apply blS;(simp<;>omega)))) hAw'
   · (with_reducible repeat first|assumption|exact Ql _ _|refine Qk ?_ _|refine Qj (by first|omega|simp<;>omega) ?_ _|refine Qo ?_|refine Qp ?_ _|refine Qn ?_ ‹_›|refine Qm ?_ ‹_›)
  ·
   have hrk:=S2.r;have hgk:=S2.g
   go_wp2
   refine bodyPost_ret (v:= .agg #[.int .i64 (100),.int .i64 l.ticks,.int .i64 l.start.x,.int .i64 l.start.y,.slice A l.walls.length c,.slice A' l.gates.length c',.int .i64 l.fin.lo.x,.int .i64 l.fin.lo.y,.int .i64 l.fin.hi.x,.int .i64 l.fin.hi.y,.int .i64 l.bans]) (by simp[results, Tryz.results33,go_sem, *]) rfl ⟨⟨(100),l.ticks,l.start,l.walls,l.gates,l.fin,l.bans⟩,A,A',c,c',rfl,⟨(show l.walls.length≤10 by omega),(show l.gates.length≤10 by omega)⟩,?_,?_,hc,hc',hAR,hAR',(show RdL _ R (n+2) by(with_reducible repeat first|assumption|refine RdL.alloc ?_ _|refine RdL.drew ?_|refine RdL.drewN ?_ _|refine RdL.far ?_ (by first|omega|simp<;>omega) _|refine RdL.later ?_ ‹_›)).more (by omega),?_⟩
   ·exact Sl.setsB (B:=w.heap.size) S2.W (by(with_reducible repeat first|assumption|apply bl0|apply blA|apply blD|apply blN|refine blF ?_ ‹_›|(apply blS;(simp<;>omega)))) hAw
   ·exact Sl.setsB (B:=w.heap.size) S2.G (by(with_reducible repeat first|assumption|apply bl0|apply blA|apply blD|apply blN|refine blF ?_ ‹_›|(apply blS;(simp<;>omega)))) hAw'
   · (with_reducible repeat first|assumption|exact Ql _ _|refine Qk ?_ _|refine Qj (by first|omega|simp<;>omega) ?_ _|refine Qo ?_|refine Qp ?_ _|refine Qn ?_ ‹_›|refine Qm ?_ ‹_›)
 have hpb0:(p == 0)=false:=by simpa using hp0
 by_cases hp1:p=1
 ·subst hp1
  obtain⟨⟨l0,l1,l2,l3,l4,l5,l6,l7,l8,l9,l10⟩,lf⟩:=S1.L.c11;obtain⟨⟨z0,z1,z2,z3,z4,z5,z6,z7,z8,z9,z10⟩,zf⟩:=S1.Z.c11
  go_wp2_with fail
  refine(Qz R (n+1) 4 _ (S1.r.alloc _) (by omega) (by omega) (by omega)).mono ?_
  rintro e w2 ⟨q,rfl,q_0,q_1,hR2,hg2⟩
  clear l0 l1 l2 l3 l4 l5 l6 l7 l8 l9 l10 lf z0 z1 z2 z3 z4 z5 z6 z7 z8 z9 z10 zf
  have Q2:Bk w2 w1.heap.size 3 #[.int .i64 0,.int .i64 1,.int .i64 60,.int .i64 61]:=(Bk.new w1 _ _ rfl).grown hg2 (by intro e;injection e;omega)
  have zQ2:=Q2.lt
  have S2:=(S1.alloc (.cells #[.int .i64 0,.int .i64 1,.int .i64 60,.int .i64 61] 3)).rd hRl hAR hAR' hg2 hR2
  clear S1 hg2 hR2
  have hs2:=S2.g.size;have zL2:=S2.L.lt;have zZ2:=S2.Z.lt
  obtain⟨⟨l0,l1,l2,l3,l4,l5,l6,l7,l8,l9,l10⟩,lf⟩:=S2.L.c11;obtain⟨⟨z0,z1,z2,z3,z4,z5,z6,z7,z8,z9,z10⟩,zf⟩:=S2.Z.c11
  obtain⟨⟨q0,q1,q2,q3⟩,qf⟩:=Q2.c4
  rcases(show q=0∨q=1∨q=2∨q=3 by omega) with rfl|rfl|rfl|rfl
  ·
   have hrk:=S2.r;have hgk:=S2.g
   go_wp2
   refine bodyPost_ret (v:= .agg #[.int .i64 l.id,.int .i64 (0),.int .i64 l.start.x,.int .i64 l.start.y,.slice A l.walls.length c,.slice A' l.gates.length c',.int .i64 l.fin.lo.x,.int .i64 l.fin.lo.y,.int .i64 l.fin.hi.x,.int .i64 l.fin.hi.y,.int .i64 l.bans]) (by simp[results, Tryz.results33,go_sem, *]) rfl ⟨⟨l.id,(0),l.start,l.walls,l.gates,l.fin,l.bans⟩,A,A',c,c',rfl,⟨(show l.walls.length≤10 by omega),(show l.gates.length≤10 by omega)⟩,?_,?_,hc,hc',hAR,hAR',(show RdL _ R (n+2) by(with_reducible repeat first|assumption|refine RdL.alloc ?_ _|refine RdL.drew ?_|refine RdL.drewN ?_ _|refine RdL.far ?_ (by first|omega|simp<;>omega) _|refine RdL.later ?_ ‹_›)).more (by omega),?_⟩
   ·exact Sl.setsB (B:=w.heap.size) S2.W (by(with_reducible repeat first|assumption|apply bl0|apply blA|apply blD|apply blN|refine blF ?_ ‹_›|(apply blS;(simp<;>omega)))) hAw
   ·exact Sl.setsB (B:=w.heap.size) S2.G (by(with_reducible repeat first|assumption|apply bl0|apply blA|apply blD|apply blN|refine blF ?_ ‹_›|(apply blS;(simp<;>omega)))) hAw'
   · (with_reducible repeat first|assumption|exact Ql _ _|refine Qk ?_ _|refine Qj (by first|omega|simp<;>omega) ?_ _|refine Qo ?_|refine Qp ?_ _|refine Qn ?_ ‹_›|refine Qm ?_ ‹_›)
  ·
   have hrk:=S2.r;have hgk:=S2.g
   go_wp2
   refine bodyPost_ret (v:= .agg #[.int .i64 l.id,.int .i64 (1),.int .i64 l.start.x,.int .i64 l.start.y,.slice A l.walls.length c,.slice A' l.gates.length c',.int .i64 l.fin.lo.x,.int .i64 l.fin.lo.y,.int .i64 l.fin.hi.x,.int .i64 l.fin.hi.y,.int .i64 l.bans]) (by simp[results, Tryz.results33,go_sem, *]) rfl ⟨⟨l.id,(1),l.start,l.walls,l.gates,l.fin,l.bans⟩,A,A',c,c',rfl,⟨(show l.walls.length≤10 by omega),(show l.gates.length≤10 by omega)⟩,?_,?_,hc,hc',hAR,hAR',(show RdL _ R (n+2) by(with_reducible repeat first|assumption|refine RdL.alloc ?_ _|refine RdL.drew ?_|refine RdL.drewN ?_ _|refine RdL.far ?_ (by first|omega|simp<;>omega) _|refine RdL.later ?_ ‹_›)).more (by omega),?_⟩
   ·exact Sl.setsB (B:=w.heap.size) S2.W (by(with_reducible repeat first|assumption|apply bl0|apply blA|apply blD|apply blN|refine blF ?_ ‹_›|(apply blS;(simp<;>omega)))) hAw
   ·exact Sl.setsB (B:=w.heap.size) S2.G (by(with_reducible repeat first|assumption|apply bl0|apply blA|apply blD|apply blN|refine blF ?_ ‹_›|(apply blS;(simp<;>omega)))) hAw'
   · (with_reducible repeat first|assumption|exact Ql _ _|refine Qk ?_ _|refine Qj (by first|omega|simp<;>omega) ?_ _|refine Qo ?_|refine Qp ?_ _|refine Qn ?_ ‹_›|refine Qm ?_ ‹_›)
  ·
   have hrk:=S2.r;have hgk:=S2.g
   go_wp2
   refine bodyPost_ret (v:= .agg #[.int .i64 l.id,.int .i64 (60),.int .i64 l.start.x,.int .i64 l.start.y,.slice A l.walls.length c,.slice A' l.gates.length c',.int .i64 l.fin.lo.x,.int .i64 l.fin.lo.y,.int .i64 l.fin.hi.x,.int .i64 l.fin.hi.y,.int .i64 l.bans]) (by simp[results, Tryz.results33,go_sem, *]) rfl ⟨⟨l.id,(60),l.start,l.walls,l.gates,l.fin,l.bans⟩,A,A',c,c',rfl,⟨(show l.walls.length≤10 by omega),(show l.gates.length≤10 by omega)⟩,?_,?_,hc,hc',hAR,hAR',(show RdL _ R (n+2) by(with_reducible repeat first|assumption|refine RdL.alloc ?_ _|refine RdL.drew ?_|refine RdL.drewN ?_ _|refine RdL.far ?_ (by first|omega|simp<;>omega) _|refine RdL.later ?_ ‹_›)).more (by omega),?_⟩
   ·exact Sl.setsB (B:=w.heap.size) S2.W (by(with_reducible repeat first|assumption|apply bl0|apply blA|apply blD|apply blN|refine blF ?_ ‹_›|(apply blS;(simp<;>omega)))) hAw
   ·exact Sl.setsB (B:=w.heap.size) S2.G (by(with_reducible repeat first|assumption|apply bl0|apply blA|apply blD|apply blN|refine blF ?_ ‹_›|(apply blS;(simp<;>omega)))) hAw'
   · (with_reducible repeat first|assumption|exact Ql _ _|refine Qk ?_ _|refine Qj (by first|omega|simp<;>omega) ?_ _|refine Qo ?_|refine Qp ?_ _|refine Qn ?_ ‹_›|refine Qm ?_ ‹_›)
  ·
   have hrk:=S2.r;have hgk:=S2.g
   go_wp2
   refine bodyPost_ret (v:= .agg #[.int .i64 l.id,.int .i64 (61),.int .i64 l.start.x,.int .i64 l.start.y,.slice A l.walls.length c,.slice A' l.gates.length c',.int .i64 l.fin.lo.x,.int .i64 l.fin.lo.y,.int .i64 l.fin.hi.x,.int .i64 l.fin.hi.y,.int .i64 l.bans]) (by simp[results, Tryz.results33,go_sem, *]) rfl ⟨⟨l.id,(61),l.start,l.walls,l.gates,l.fin,l.bans⟩,A,A',c,c',rfl,⟨(show l.walls.length≤10 by omega),(show l.gates.length≤10 by omega)⟩,?_,?_,hc,hc',hAR,hAR',(show RdL _ R (n+2) by(with_reducible repeat first|assumption|refine RdL.alloc ?_ _|refine RdL.drew ?_|refine RdL.drewN ?_ _|refine RdL.far ?_ (by first|omega|simp<;>omega) _|refine RdL.later ?_ ‹_›)).more (by omega),?_⟩
   ·exact Sl.setsB (B:=w.heap.size) S2.W (by(with_reducible repeat first|assumption|apply bl0|apply blA|apply blD|apply blN|refine blF ?_ ‹_›|(apply blS;(simp<;>omega)))) hAw
   ·exact Sl.setsB (B:=w.heap.size) S2.G (by(with_reducible repeat first|assumption|apply bl0|apply blA|apply blD|apply blN|refine blF ?_ ‹_›|(apply blS;(simp<;>omega)))) hAw'
   · (with_reducible repeat first|assumption|exact Ql _ _|refine Qk ?_ _|refine Qj (by first|omega|simp<;>omega) ?_ _|refine Qo ?_|refine Qp ?_ _|refine Qn ?_ ‹_›|refine Qm ?_ ‹_›)
 have hpb1:(p == 1)=false:=by simpa using hp1
 by_cases hp2:p=2
 ·subst hp2
  obtain⟨⟨l0,l1,l2,l3,l4,l5,l6,l7,l8,l9,l10⟩,lf⟩:=S1.L.c11;obtain⟨⟨z0,z1,z2,z3,z4,z5,z6,z7,z8,z9,z10⟩,zf⟩:=S1.Z.c11
  go_wp2_with fail
  refine(QeF R (n+1) _ S1.r (by omega)).mono ?_
  rintro e w2 ⟨v,rfl,hv,hR2,hg2⟩
  clear l0 l1 l2 l3 l4 l5 l6 l7 l8 l9 l10 lf z0 z1 z2 z3 z4 z5 z6 z7 z8 z9 z10 zf
  have S2:=S1.rd hRl hAR hAR' hg2 hR2
  have hs2:=S2.g.size;have zL2:=S2.L.lt;have zZ2:=S2.Z.lt
  clear S1 hg2 hR2
  obtain⟨⟨l0,l1,l2,l3,l4,l5,l6,l7,l8,l9,l10⟩,lf⟩:=S2.L.c11;obtain⟨⟨z0,z1,z2,z3,z4,z5,z6,z7,z8,z9,z10⟩,zf⟩:=S2.Z.c11
  have hrk:=S2.r;have hgk:=S2.g
  go_wp2
  refine bodyPost_ret (v:= .agg #[.int .i64 l.id,.int .i64 l.ticks,.int .i64 v.x,.int .i64 v.y,.slice A l.walls.length c,.slice A' l.gates.length c',.int .i64 l.fin.lo.x,.int .i64 l.fin.lo.y,.int .i64 l.fin.hi.x,.int .i64 l.fin.hi.y,.int .i64 l.bans]) (by simp[results, Tryz.results33,go_sem, *]) rfl ⟨⟨l.id,l.ticks,v,l.walls,l.gates,l.fin,l.bans⟩,A,A',c,c',rfl,⟨(show l.walls.length≤10 by omega),(show l.gates.length≤10 by omega)⟩,?_,?_,hc,hc',hAR,hAR',(show RdL _ R (n+1+8) by(with_reducible repeat first|assumption|refine RdL.alloc ?_ _|refine RdL.drew ?_|refine RdL.drewN ?_ _|refine RdL.far ?_ (by first|omega|simp<;>omega) _|refine RdL.later ?_ ‹_›)).more (by omega),?_⟩
  ·exact Sl.setsB (B:=w.heap.size) S2.W (by(with_reducible repeat first|assumption|apply bl0|apply blA|apply blD|apply blN|refine blF ?_ ‹_›|(apply blS;(simp<;>omega)))) hAw
  ·exact Sl.setsB (B:=w.heap.size) S2.G (by(with_reducible repeat first|assumption|apply bl0|apply blA|apply blD|apply blN|refine blF ?_ ‹_›|(apply blS;(simp<;>omega)))) hAw'
  · (with_reducible repeat first|assumption|exact Ql _ _|refine Qk ?_ _|refine Qj (by first|omega|simp<;>omega) ?_ _|refine Qo ?_|refine Qp ?_ _|refine Qn ?_ ‹_›|refine Qm ?_ ‹_›)
 have hpb2:(p == 2)=false:=by simpa using hp2
 by_cases hp3:p=3
 ·subst hp3
  obtain⟨⟨l0,l1,l2,l3,l4,l5,l6,l7,l8,l9,l10⟩,lf⟩:=S1.L.c11;obtain⟨⟨z0,z1,z2,z3,z4,z5,z6,z7,z8,z9,z10⟩,zf⟩:=S1.Z.c11
  go_wp2_with (at_builtin;refine XX rfl (.tmp 30) (.tmp 32) _ rfl (w.heap.size+2) 27 i0 (.agg #[.int .i64 0,.int .i64 0,.int .i64 0,.int .i64 0]) 4 32 (Sq.und Tryz.underlying25) hi hz0 hz1 hz2 rfl (by decide) Qv Qcq _ [] l.walls rfl (QeS w1 _ _ 27 (by omega) rfl) A l.walls.length c rfl (S1.W.below (Qf (Below.refl _ _) _)) hc (by have e0:([]:List Bx).length=0:=rfl;unfold maxLen;omega) (by have e0:([]:List Bx).length=0:=rfl;omega) (by simp;omega) ?_;intro v3 w3 O3 hg3 hl3;rw[List.nil_append] at O3;obtain⟨A3,c3,rfl,hc3,_⟩:=O3.form;have S3:XJ l A A' c c' R (n+1) #[.int .i64 l.id,.int .i64 l.ticks,.int .i64 l.start.x,.int .i64 l.start.y,.slice A l.walls.length c,.slice A' l.gates.length c',.int .i64 l.fin.lo.x,.int .i64 l.fin.lo.y,.int .i64 l.fin.hi.x,.int .i64 l.fin.hi.y,.int .i64 l.bans] w w3:=(S1.alloc (.cells #[] 27)).own hRl hAw hAw' hg3 (by intro g e;have e2:some w1.heap.size=some g:=e;injection e2 with e2;omega);clear l0 l1 l2 l3 l4 l5 l6 l7 l8 l9 l10 lf z0 z1 z2 z3 z4 z5 z6 z7 z8 z9 z10 zf;clear hg3 S1 hl3)
  have hs3:=S3.g.size;have zL3:=S3.L.lt;have zZ3:=S3.Z.lt
  refine(QdJ R (n+1) _ S3.r (by omega)).mono ?_
  rintro e w4 ⟨b1,rfl,hb4,hR4,hg4⟩
  have S4:=S3.rd hRl hAR hAR' hg4 hR4
  have O4:=O3.gk hg4 (by omega)
  have hs4:=S4.g.size;have zL4:=S4.L.lt;have zZ4:=S4.Z.lt
  clear S3 O3 hg4 hR4 hb4 zL3 zZ3
  go_wp2_with fail
  refine(QdJ R (n+1+12) _ S4.r (by omega)).mono ?_
  rintro e w5 ⟨b2,rfl,hb5,hR5,hg5⟩
  have S5:=S4.rd hRl hAR hAR' hg5 hR5
  have O5:=O4.gk hg5 (by omega)
  have hs5:=S5.g.size;have zL5:=S5.L.lt;have zZ5:=S5.Z.lt
  clear S4 O4 hg5 hR5 hb5 zL4 zZ4
  obtain⟨⟨l0,l1,l2,l3,l4,l5,l6,l7,l8,l9,l10⟩,lf⟩:=S5.L.c11;obtain⟨⟨z0,z1,z2,z3,z4,z5,z6,z7,z8,z9,z10⟩,zf⟩:=S5.Z.c11
  have hlt5:=O5.lt
  have hlen:(l.walls++ [b1,b2]).length=l.walls.length+2:=by simp
  go_wp2_with (at_builtin;refine XX rfl (.tmp 33) (.tmp 38) _ rfl (w.heap.size+2) 27 i0 (.agg #[.int .i64 0,.int .i64 0,.int .i64 0,.int .i64 0]) 4 32 (Sq.und Tryz.underlying25) hi hz0 hz1 hz2 rfl (by decide) Qv Qcq _ l.walls [b1,b2] rfl (O5.alloc _) _ 2 2 rfl (Sl.lits _ _ _ _ _ 2 Qv rfl rfl rfl) (by intro e;cases e) (by unfold maxLen;omega) (by omega) (by simp;omega) ?_;intro v6 w6 O6 hg6 hl6;obtain⟨A6,c6,rfl,hc6,hA6⟩:=O6.form;have S6:XJ l A A' c c' R (n+1+12+12) #[.int .i64 l.id,.int .i64 l.ticks,.int .i64 l.start.x,.int .i64 l.start.y,.slice A l.walls.length c,.slice A' l.gates.length c',.int .i64 l.fin.lo.x,.int .i64 l.fin.lo.y,.int .i64 l.fin.hi.x,.int .i64 l.fin.hi.y,.int .i64 l.bans] w w6:=(S5.alloc (.cells #[.int .i64 b1.lo.x,.int .i64 b1.lo.y,.int .i64 b1.hi.x,.int .i64 b1.hi.y,.int .i64 b2.lo.x,.int .i64 b2.lo.y,.int .i64 b2.hi.x,.int .i64 b2.hi.y] 27)).own hRl hAw hAw' hg6 (by intro g e;have:=(hlt5 g e).1;omega);clear l0 l1 l2 l3 l4 l5 l6 l7 l8 l9 l10 lf z0 z1 z2 z3 z4 z5 z6 z7 z8 z9 z10 zf;clear hg6 S5 O5 hl6 hlt5 zL5 zZ5;have hs6:=S6.g.size;have zL6:=S6.L.lt;have zZ6:=S6.Z.lt;have hlt6:=O6.lt;obtain⟨⟨l0,l1,l2,l3,l4,l5,l6,l7,l8,l9,l10⟩,lf⟩:=S6.L.c11;obtain⟨⟨z0,z1,z2,z3,z4,z5,z6,z7,z8,z9,z10⟩,zf⟩:=S6.Z.c11;have O6s:=O6.sl' Qv;have hn6:=O6.none_cap;have hA6R: ∀a,A6=some a→w.heap.size+2≤a.block:=(by intro a e;subst e;exact(hlt6 a.block rfl).1);have hrk:=S6.r;have hgk:=S6.g)
  have O6s:=O6.sl' Qv
  have hn6:=O6.none_cap
  have hA6R: ∀a,A6=some a→w.heap.size+2≤a.block:=by intro a e;subst e;exact(hlt6 a.block rfl).1
  refine bodyPost_ret (v:= .agg #[.int .i64 l.id,.int .i64 l.ticks,.int .i64 l.start.x,.int .i64 l.start.y,.slice A6 (l.walls++ [b1,b2]).length c6,.slice A' l.gates.length c',.int .i64 l.fin.lo.x,.int .i64 l.fin.lo.y,.int .i64 l.fin.hi.x,.int .i64 l.fin.hi.y,.int .i64 l.bans]) (by simp[results, Tryz.results33,go_sem, *]) rfl ⟨⟨l.id,l.ticks,l.start,l.walls++ [b1,b2],l.gates,l.fin,l.bans⟩,A6,A',c6,c',rfl,⟨(show(l.walls++ [b1,b2]).length≤10 by rw[hlen];omega),(show l.gates.length≤10 by omega)⟩,?_,?_,hn6,hc',(fun a e=>by have:=hA6R a e;omega),hAR',(show RdL _ R (n+1+12+12) by(with_reducible repeat first|assumption|refine RdL.alloc ?_ _|refine RdL.drew ?_|refine RdL.drewN ?_ _|refine RdL.far ?_ (by first|omega|simp<;>omega) _|refine RdL.later ?_ ‹_›)).more (by omega),?_⟩
  · (repeat(first|(with_reducible assumption)|(with_reducible refine Sl.far' ?_ (fun a e=>Nat.ne_of_gt (Nat.lt_of_lt_of_le (by simp) (hA6R a e))) _)))
  ·exact Sl.setsB (B:=w.heap.size) S6.G (by(with_reducible repeat first|assumption|apply bl0|apply blA|apply blD|apply blN|refine blF ?_ ‹_›|(apply blS;(simp<;>omega)))) hAw'
  · (with_reducible repeat first|assumption|exact Ql _ _|refine Qk ?_ _|refine Qj (by first|omega|simp<;>omega) ?_ _|refine Qo ?_|refine Qp ?_ _|refine Qn ?_ ‹_›|refine Qm ?_ ‹_›)
 have hpb3:(p == 3)=false:=by simpa using hp3
 by_cases hp4:p=4
 ·subst hp4
  obtain⟨⟨l0,l1,l2,l3,l4,l5,l6,l7,l8,l9,l10⟩,lf⟩:=S1.L.c11;obtain⟨⟨z0,z1,z2,z3,z4,z5,z6,z7,z8,z9,z10⟩,zf⟩:=S1.Z.c11
  go_wp2_with (at_builtin;refine XX rfl (.tmp 43) (.tmp 45) _ rfl (w.heap.size+2) 27 i0 (.agg #[.int .i64 0,.int .i64 0,.int .i64 0,.int .i64 0]) 4 32 (Sq.und Tryz.underlying25) hi hz0 hz1 hz2 rfl (by decide) Qv Qcq _ [] l.gates rfl (QeS w1 _ _ 27 (by omega) rfl) A' l.gates.length c' rfl (S1.G.below (Qf (Below.refl _ _) _)) hc' (by have e0:([]:List Bx).length=0:=rfl;unfold maxLen;omega) (by have e0:([]:List Bx).length=0:=rfl;omega) (by simp;omega) ?_;intro v3 w3 O3 hg3 hl3;rw[List.nil_append] at O3;obtain⟨A3,c3,rfl,hc3,_⟩:=O3.form;have S3:XJ l A A' c c' R (n+1) #[.int .i64 l.id,.int .i64 l.ticks,.int .i64 l.start.x,.int .i64 l.start.y,.slice A l.walls.length c,.slice A' l.gates.length c',.int .i64 l.fin.lo.x,.int .i64 l.fin.lo.y,.int .i64 l.fin.hi.x,.int .i64 l.fin.hi.y,.int .i64 l.bans] w w3:=(S1.alloc (.cells #[] 27)).own hRl hAw hAw' hg3 (by intro g e;have e2:some w1.heap.size=some g:=e;injection e2 with e2;omega);clear l0 l1 l2 l3 l4 l5 l6 l7 l8 l9 l10 lf z0 z1 z2 z3 z4 z5 z6 z7 z8 z9 z10 zf;clear hg3 S1 hl3)
  have hs3:=S3.g.size;have zL3:=S3.L.lt;have zZ3:=S3.Z.lt
  refine(QdJ R (n+1) _ S3.r (by omega)).mono ?_
  rintro e w4 ⟨b1,rfl,hb4,hR4,hg4⟩
  have S4:=S3.rd hRl hAR hAR' hg4 hR4
  have O4:=O3.gk hg4 (by omega)
  have hs4:=S4.g.size;have zL4:=S4.L.lt;have zZ4:=S4.Z.lt
  clear S3 O3 hg4 hR4 hb4 zL3 zZ3
  go_wp2_with fail
  refine(QdJ R (n+1+12) _ S4.r (by omega)).mono ?_
  rintro e w5 ⟨b2,rfl,hb5,hR5,hg5⟩
  have S5:=S4.rd hRl hAR hAR' hg5 hR5
  have O5:=O4.gk hg5 (by omega)
  have hs5:=S5.g.size;have zL5:=S5.L.lt;have zZ5:=S5.Z.lt
  clear S4 O4 hg5 hR5 hb5 zL4 zZ4
  obtain⟨⟨l0,l1,l2,l3,l4,l5,l6,l7,l8,l9,l10⟩,lf⟩:=S5.L.c11;obtain⟨⟨z0,z1,z2,z3,z4,z5,z6,z7,z8,z9,z10⟩,zf⟩:=S5.Z.c11
  have hlt5:=O5.lt
  have hlen:(l.gates++ [b1,b2]).length=l.gates.length+2:=by simp
  go_wp2_with (at_builtin;refine XX rfl (.tmp 46) (.tmp 51) _ rfl (w.heap.size+2) 27 i0 (.agg #[.int .i64 0,.int .i64 0,.int .i64 0,.int .i64 0]) 4 32 (Sq.und Tryz.underlying25) hi hz0 hz1 hz2 rfl (by decide) Qv Qcq _ l.gates [b1,b2] rfl (O5.alloc _) _ 2 2 rfl (Sl.lits _ _ _ _ _ 2 Qv rfl rfl rfl) (by intro e;cases e) (by unfold maxLen;omega) (by omega) (by simp;omega) ?_;intro v6 w6 O6 hg6 hl6;obtain⟨A6,c6,rfl,hc6,hA6⟩:=O6.form;have S6:XJ l A A' c c' R (n+1+12+12) #[.int .i64 l.id,.int .i64 l.ticks,.int .i64 l.start.x,.int .i64 l.start.y,.slice A l.walls.length c,.slice A' l.gates.length c',.int .i64 l.fin.lo.x,.int .i64 l.fin.lo.y,.int .i64 l.fin.hi.x,.int .i64 l.fin.hi.y,.int .i64 l.bans] w w6:=(S5.alloc (.cells #[.int .i64 b1.lo.x,.int .i64 b1.lo.y,.int .i64 b1.hi.x,.int .i64 b1.hi.y,.int .i64 b2.lo.x,.int .i64 b2.lo.y,.int .i64 b2.hi.x,.int .i64 b2.hi.y] 27)).own hRl hAw hAw' hg6 (by intro g e;have:=(hlt5 g e).1;omega);clear l0 l1 l2 l3 l4 l5 l6 l7 l8 l9 l10 lf z0 z1 z2 z3 z4 z5 z6 z7 z8 z9 z10 zf;clear hg6 S5 O5 hl6 hlt5 zL5 zZ5;have hs6:=S6.g.size;have zL6:=S6.L.lt;have zZ6:=S6.Z.lt;have hlt6:=O6.lt;obtain⟨⟨l0,l1,l2,l3,l4,l5,l6,l7,l8,l9,l10⟩,lf⟩:=S6.L.c11;obtain⟨⟨z0,z1,z2,z3,z4,z5,z6,z7,z8,z9,z10⟩,zf⟩:=S6.Z.c11;have O6s:=O6.sl' Qv;have hn6:=O6.none_cap;have hA6R: ∀a,A6=some a→w.heap.size+2≤a.block:=(by intro a e;subst e;exact(hlt6 a.block rfl).1);have hrk:=S6.r;have hgk:=S6.g)
  have O6s:=O6.sl' Qv
  have hn6:=O6.none_cap
  have hA6R: ∀a,A6=some a→w.heap.size+2≤a.block:=by intro a e;subst e;exact(hlt6 a.block rfl).1
  refine bodyPost_ret (v:= .agg #[.int .i64 l.id,.int .i64 l.ticks,.int .i64 l.start.x,.int .i64 l.start.y,.slice A l.walls.length c,.slice A6 (l.gates++ [b1,b2]).length c6,.int .i64 l.fin.lo.x,.int .i64 l.fin.lo.y,.int .i64 l.fin.hi.x,.int .i64 l.fin.hi.y,.int .i64 l.bans]) (by simp[results, Tryz.results33,go_sem, *]) rfl ⟨⟨l.id,l.ticks,l.start,l.walls,l.gates++ [b1,b2],l.fin,l.bans⟩,A,A6,c,c6,rfl,⟨(show l.walls.length≤10 by omega),(show(l.gates++ [b1,b2]).length≤10 by rw[hlen];omega)⟩,?_,?_,hc,hn6,hAR,(fun a e=>by have:=hA6R a e;omega),(show RdL _ R (n+1+12+12) by(with_reducible repeat first|assumption|refine RdL.alloc ?_ _|refine RdL.drew ?_|refine RdL.drewN ?_ _|refine RdL.far ?_ (by first|omega|simp<;>omega) _|refine RdL.later ?_ ‹_›)).more (by omega),?_⟩
  ·exact Sl.setsB (B:=w.heap.size) S6.W (by(with_reducible repeat first|assumption|apply bl0|apply blA|apply blD|apply blN|refine blF ?_ ‹_›|(apply blS;(simp<;>omega)))) hAw
  · (repeat(first|(with_reducible assumption)|(with_reducible refine Sl.far' ?_ (fun a e=>Nat.ne_of_gt (Nat.lt_of_lt_of_le (by simp) (hA6R a e))) _)))
  · (with_reducible repeat first|assumption|exact Ql _ _|refine Qk ?_ _|refine Qj (by first|omega|simp<;>omega) ?_ _|refine Qo ?_|refine Qp ?_ _|refine Qn ?_ ‹_›|refine Qm ?_ ‹_›)
 have hpb4:(p == 4)=false:=by simpa using hp4
 by_cases hp5:p=5
 ·subst hp5
  obtain⟨⟨l0,l1,l2,l3,l4,l5,l6,l7,l8,l9,l10⟩,lf⟩:=S1.L.c11;obtain⟨⟨z0,z1,z2,z3,z4,z5,z6,z7,z8,z9,z10⟩,zf⟩:=S1.Z.c11
  go_wp2_with fail
  refine(QdJ R (n+1) _ S1.r (by omega)).mono ?_
  rintro e w2 ⟨v,rfl,hv,hR2,hg2⟩
  clear l0 l1 l2 l3 l4 l5 l6 l7 l8 l9 l10 lf z0 z1 z2 z3 z4 z5 z6 z7 z8 z9 z10 zf
  have S2:=S1.rd hRl hAR hAR' hg2 hR2
  have hs2:=S2.g.size;have zL2:=S2.L.lt;have zZ2:=S2.Z.lt
  clear S1 hg2 hR2
  obtain⟨⟨l0,l1,l2,l3,l4,l5,l6,l7,l8,l9,l10⟩,lf⟩:=S2.L.c11;obtain⟨⟨z0,z1,z2,z3,z4,z5,z6,z7,z8,z9,z10⟩,zf⟩:=S2.Z.c11
  have hrk:=S2.r;have hgk:=S2.g
  go_wp2
  refine bodyPost_ret (v:= .agg #[.int .i64 l.id,.int .i64 l.ticks,.int .i64 l.start.x,.int .i64 l.start.y,.slice A l.walls.length c,.slice A' l.gates.length c',.int .i64 v.lo.x,.int .i64 v.lo.y,.int .i64 v.hi.x,.int .i64 v.hi.y,.int .i64 l.bans]) (by simp[results, Tryz.results33,go_sem, *]) rfl ⟨⟨l.id,l.ticks,l.start,l.walls,l.gates,v,l.bans⟩,A,A',c,c',rfl,⟨(show l.walls.length≤10 by omega),(show l.gates.length≤10 by omega)⟩,?_,?_,hc,hc',hAR,hAR',(show RdL _ R (n+1+12) by(with_reducible repeat first|assumption|refine RdL.alloc ?_ _|refine RdL.drew ?_|refine RdL.drewN ?_ _|refine RdL.far ?_ (by first|omega|simp<;>omega) _|refine RdL.later ?_ ‹_›)).more (by omega),?_⟩
  ·exact Sl.setsB (B:=w.heap.size) S2.W (by(with_reducible repeat first|assumption|apply bl0|apply blA|apply blD|apply blN|refine blF ?_ ‹_›|(apply blS;(simp<;>omega)))) hAw
  ·exact Sl.setsB (B:=w.heap.size) S2.G (by(with_reducible repeat first|assumption|apply bl0|apply blA|apply blD|apply blN|refine blF ?_ ‹_›|(apply blS;(simp<;>omega)))) hAw'
  · (with_reducible repeat first|assumption|exact Ql _ _|refine Qk ?_ _|refine Qj (by first|omega|simp<;>omega) ?_ _|refine Qo ?_|refine Qp ?_ _|refine Qn ?_ ‹_›|refine Qm ?_ ‹_›)
 have hpb5:(p == 5)=false:=by simpa using hp5
 by_cases hp6:p=6
 ·subst hp6
  obtain⟨⟨l0,l1,l2,l3,l4,l5,l6,l7,l8,l9,l10⟩,lf⟩:=S1.L.c11;obtain⟨⟨z0,z1,z2,z3,z4,z5,z6,z7,z8,z9,z10⟩,zf⟩:=S1.Z.c11
  go_wp2_with fail
  refine(Qz R (n+1) 6 _ S1.r (by omega) (by omega) (by omega)).mono ?_
  rintro e w2 ⟨q,rfl,q_0,q_1,hR2,hg2⟩
  clear l0 l1 l2 l3 l4 l5 l6 l7 l8 l9 l10 lf z0 z1 z2 z3 z4 z5 z6 z7 z8 z9 z10 zf
  have S2:=S1.rd hRl hAR hAR' hg2 hR2
  have hs2:=S2.g.size;have zL2:=S2.L.lt;have zZ2:=S2.Z.lt
  clear S1 hg2 hR2
  obtain⟨⟨l0,l1,l2,l3,l4,l5,l6,l7,l8,l9,l10⟩,lf⟩:=S2.L.c11;obtain⟨⟨z0,z1,z2,z3,z4,z5,z6,z7,z8,z9,z10⟩,zf⟩:=S2.Z.c11
  have hrk:=S2.r;have hgk:=S2.g
  go_wp2
  refine bodyPost_ret (v:= .agg #[.int .i64 l.id,.int .i64 l.ticks,.int .i64 l.start.x,.int .i64 l.start.y,.slice A l.walls.length c,.slice A' l.gates.length c',.int .i64 l.fin.lo.x,.int .i64 l.fin.lo.y,.int .i64 l.fin.hi.x,.int .i64 l.fin.hi.y,.int .i64 (q - 1)]) (by simp[results, Tryz.results33,go_sem, *]) rfl ⟨⟨l.id,l.ticks,l.start,l.walls,l.gates,l.fin,q - 1⟩,A,A',c,c',rfl,⟨(show l.walls.length≤10 by omega),(show l.gates.length≤10 by omega)⟩,?_,?_,hc,hc',hAR,hAR',(show RdL _ R (n+2) by(with_reducible repeat first|assumption|refine RdL.alloc ?_ _|refine RdL.drew ?_|refine RdL.drewN ?_ _|refine RdL.far ?_ (by first|omega|simp<;>omega) _|refine RdL.later ?_ ‹_›)).more (by omega),?_⟩
  ·exact Sl.setsB (B:=w.heap.size) S2.W (by(with_reducible repeat first|assumption|apply bl0|apply blA|apply blD|apply blN|refine blF ?_ ‹_›|(apply blS;(simp<;>omega)))) hAw
  ·exact Sl.setsB (B:=w.heap.size) S2.G (by(with_reducible repeat first|assumption|apply bl0|apply blA|apply blD|apply blN|refine blF ?_ ‹_›|(apply blS;(simp<;>omega)))) hAw'
  · (with_reducible repeat first|assumption|exact Ql _ _|refine Qk ?_ _|refine Qj (by first|omega|simp<;>omega) ?_ _|refine Qo ?_|refine Qp ?_ _|refine Qn ?_ ‹_›|refine Qm ?_ ‹_›)
 ·
  have hpb6:(p == 6)=false:=by simpa using hp6
  obtain⟨⟨l0,l1,l2,l3,l4,l5,l6,l7,l8,l9,l10⟩,lf⟩:=S1.L.c11;obtain⟨⟨z0,z1,z2,z3,z4,z5,z6,z7,z8,z9,z10⟩,zf⟩:=S1.Z.c11
  have hrk:=S1.r;have hgk:=S1.g
  go_wp2
  refine bodyPost_ret (v:= .agg #[.int .i64 l.id,.int .i64 l.ticks,.int .i64 l.start.x,.int .i64 l.start.y,.slice A l.walls.length c,.slice A' l.gates.length c',.int .i64 l.fin.lo.x,.int .i64 l.fin.lo.y,.int .i64 l.fin.hi.x,.int .i64 l.fin.hi.y,.int .i64 l.bans]) (by simp[results, Tryz.results33,go_sem, *]) rfl ⟨l,A,A',c,c',rfl,⟨(show l.walls.length≤10 by omega),(show l.gates.length≤10 by omega)⟩,?_,?_,hc,hc',hAR,hAR',(show RdL _ R (n+1) by(with_reducible repeat first|assumption|refine RdL.alloc ?_ _|refine RdL.drew ?_|refine RdL.drewN ?_ _|refine RdL.far ?_ (by first|omega|simp<;>omega) _|refine RdL.later ?_ ‹_›)).more (by omega),?_⟩
  ·exact Sl.setsB (B:=w.heap.size) S1.W (by(with_reducible repeat first|assumption|apply bl0|apply blA|apply blD|apply blN|refine blF ?_ ‹_›|(apply blS;(simp<;>omega)))) hAw
  ·exact Sl.setsB (B:=w.heap.size) S1.G (by(with_reducible repeat first|assumption|apply bl0|apply blA|apply blD|apply blN|refine blF ?_ ‹_›|(apply blS;(simp<;>omega)))) hAw'
  · (with_reducible repeat first|assumption|exact Ql _ _|refine Qk ?_ _|refine Qj (by first|omega|simp<;>omega) ?_ _|refine Qo ?_|refine Qp ?_ _|refine Qn ?_ ‹_›|refine Qm ?_ ‹_›)
end Go.Proofs.YtpmjcjoeckajgaaGreatDoor
/- The reference's draws of runs: DrawInputsLegal, DrawRunScore, DrawRunHashes, DrawRunTo. (Round B) -/
namespace Go.Proofs.YtpmjcjoeckajgaaGreatDoor
open Go.ChangeShapes Go.WideShapes Go.ChangeAt Go.RowKit
structure Qb(l:Lev)(A A':Option Addr)(c c':Nat)(ins:List Inp)(A2:Option Addr)(c2:Nat)(w:World):Prop where
 nw:l.walls.length≤10
 ng:l.gates.length≤10
 W:Sl w 4 Qc A l.walls.length l.walls
 G:Sl w 4 Qc A' l.gates.length l.gates
 e:A=none→c=0
 e':A'=none→c'=0
 ni:ins.length≤63
 I:Sl w 3 Qd A2 ins.length ins
 ci:ins.length≤c2
 e2:A2=none→c2=0
theorem Qb.below{l:Lev}{A A':Option Addr}{c c':Nat}{ins:List Inp}{A2:Option Addr}{c2:Nat}{w w':World}(h:Qb l A A' c c' ins A2 c2 w)(hb:Below w.heap.size w w'):Qb l A A' c c' ins A2 c2 w':=
 ⟨h.nw,h.ng,h.W.below hb,h.G.below hb,h.e,h.e',h.ni,h.I.below hb,h.ci,h.e2⟩
end Go.Proofs.YtpmjcjoeckajgaaGreatDoor
/- Two equal states, two equal inputs are told equal. (Round B) -/
namespace Go.Proofs.YtpmjcjoeckajgaaGreatDoor
open Go.ChangeShapes Go.WideShapes Go.ChangeAt Go.RowKit
end Go.Proofs.YtpmjcjoeckajgaaGreatDoor
