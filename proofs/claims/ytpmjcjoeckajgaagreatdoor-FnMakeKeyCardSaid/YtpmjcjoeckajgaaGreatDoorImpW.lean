/- The program's ReplayMake. (Round B, seat Z; printed by gen/implr.py) -/
import Derived.Test.YtpmjcjoeckajgaaGreatDoorImpV
import Derived.Test.YtpmjcjoeckajgaaGreatDoorSpecL
namespace Go.Proofs.YtpmjcjoeckajgaaGreatDoor
open Go.ChangeShapes Go.WideShapes Go.ChangeAt Go.RowKit
set_option linter.unusedSimpArgs false in
set_option linter.unusedVariables false in
set_option maxRecDepth 100000 in
set_option maxHeartbeats 40000000 in
theorem Jy(l:Lev)(pl key:Int)(ins:List Inp)(A A' A2:Option Addr)(c c' c2:Nat)(w:World)(h:Sl w 4 Qc A l.walls.length l.walls)(hg:Sl w 4 Qc A' l.gates.length l.gates)(e0:A=none→c=0)(e0':A'=none→c'=0)(hs:Sl w 3 Qd A2 ins.length ins)(hA2:A2=none→c2=0)
 (hn:(l.walls.length:Nat)≤9223372036854775807)(hn':(l.gates.length:Nat)≤9223372036854775807)(hni:ins.length≤9000000000000000000):
 Calls Sq.prog 18 #[.agg #[.int .i64 l.id,.int .i64 l.ticks,.int .i64 l.start.x,.int .i64 l.start.y,.slice A l.walls.length c,.slice A' l.gates.length c',.int .i64 l.fin.lo.x,.int .i64 l.fin.lo.y,.int .i64 l.fin.hi.x,.int .i64 l.fin.hi.y,.int .i64 l.bans],.int .i64 pl,.int .i64 key,.slice A2 ins.length c2] w (Qec (Zu l pl key ins) (ZJ l pl key ins) w):=by
 have hni':ins.length≤9223372036854775807:=by omega
 cases hok:ZJ l pl key ins
 ·have hR:Hid (Zu l pl key ins=Qd6):=Lib.hid (by unfold Zu;rw[hok];rfl)
  rw[hR.out]
  unfold ZJ QA at hok
  cases hlv:QE l
  ·skip
   go_enter Sq.func18, Tryz.ntmps18
   go_wp2_with fail
   refine(Zi l A A' c c' _ (h.below (by(with_reducible repeat first|assumption|apply bl0|apply blA|apply blD|apply blN|refine blF ?_ ‹_›|(apply blS;(simp<;>omega))))) (hg.below (by(with_reducible repeat first|assumption|apply bl0|apply blA|apply blD|apply blN|refine blF ?_ ‹_›|(apply blS;(simp<;>omega))))) e0 e0' hn hn').mono ?_
   rw[hlv]
   rintro e w0 ⟨rfl,hb0⟩
   obtain⟨R0,L0⟩:Bk w0 (w.heap.size+1) 33 #[.int .i64 0,.int .i64 0,.int .i64 0,.slice none 0 0,.slice none 0 0,.int .i64 0]∧Bk w0 w.heap.size 29 #[.int .i64 l.id,.int .i64 l.ticks,.int .i64 l.start.x,.int .i64 l.start.y,.slice A l.walls.length c,.slice A' l.gates.length c',.int .i64 l.fin.lo.x,.int .i64 l.fin.lo.y,.int .i64 l.fin.hi.x,.int .i64 l.fin.hi.y,.int .i64 l.bans]:=by refine⟨Bk.later ?_ hb0,Bk.later ?_ hb0⟩<;>(repeat first|(with_reducible first|assumption|exact kN _ _ _ (by simp)|refine kA ?_ _|refine kD ?_|refine kW ?_ _|apply Bk.set'|refine kF ?_ (by simp<;>omega) _|refine kL ?_ ‹_›|refine kG ?_ ‹_› (by first|omega|simp<;>omega))|exact⟨by with_reducible rfl⟩|exact⟨by simp⟩)
   have hd0:Below w.heap.size w w0:=Qa (by(with_reducible repeat first|assumption|apply bl0|apply blA|apply blD|apply blN|refine blF ?_ ‹_›|(apply blS;(simp<;>omega)))) hb0
   clear hb0
   have zR:=R0.lt
   obtain⟨⟨r0,r1,r2,r3,r4,r5⟩,rf⟩:=R0.c6
   go_wp2
   exact bodyPost_ret (v:= .tuple #[.agg #[.int .i64 0,.int .i64 0,.int .i64 0,.slice none 0 0,.slice none 0 0,.int .i64 0],.bool false]) (by simp[results, Tryz.results18,go_sem, *]) rfl ⟨none,0,none,0,rfl,Own.none_,Own.none_,by(with_reducible repeat first|assumption|apply bl0|apply blA|apply blD|apply blN|refine blF ?_ ‹_›|(apply blS;(simp<;>omega))),fun g g' e=>by cases e⟩
  ·rw[hlv] at hok
   by_cases hlg:QC l ins<0
   ·rw[decide_eq_true hlg] at hok
    cases h2:inR 0 9 pl
    ·skip
     go_enter Sq.func18, Tryz.ntmps18
     go_wp2_with fail
     refine(Zi l A A' c c' _ (h.below (by(with_reducible repeat first|assumption|apply bl0|apply blA|apply blD|apply blN|refine blF ?_ ‹_›|(apply blS;(simp<;>omega))))) (hg.below (by(with_reducible repeat first|assumption|apply bl0|apply blA|apply blD|apply blN|refine blF ?_ ‹_›|(apply blS;(simp<;>omega))))) e0 e0' hn hn').mono ?_
     rw[hlv]
     rintro e w0 ⟨rfl,hb0⟩
     obtain⟨R0,L0⟩:Bk w0 (w.heap.size+1) 33 #[.int .i64 0,.int .i64 0,.int .i64 0,.slice none 0 0,.slice none 0 0,.int .i64 0]∧Bk w0 w.heap.size 29 #[.int .i64 l.id,.int .i64 l.ticks,.int .i64 l.start.x,.int .i64 l.start.y,.slice A l.walls.length c,.slice A' l.gates.length c',.int .i64 l.fin.lo.x,.int .i64 l.fin.lo.y,.int .i64 l.fin.hi.x,.int .i64 l.fin.hi.y,.int .i64 l.bans]:=by refine⟨Bk.later ?_ hb0,Bk.later ?_ hb0⟩<;>(repeat first|(with_reducible first|assumption|exact kN _ _ _ (by simp)|refine kA ?_ _|refine kD ?_|refine kW ?_ _|apply Bk.set'|refine kF ?_ (by simp<;>omega) _|refine kL ?_ ‹_›|refine kG ?_ ‹_› (by first|omega|simp<;>omega))|exact⟨by with_reducible rfl⟩|exact⟨by simp⟩)
     have hd0:Below w.heap.size w w0:=Qa (by(with_reducible repeat first|assumption|apply bl0|apply blA|apply blD|apply blN|refine blF ?_ ‹_›|(apply blS;(simp<;>omega)))) hb0
     clear hb0
     obtain⟨⟨l0,l1,l2,l3,l4,l5,l6,l7,l8,l9,l10⟩,lf⟩:=L0.c11
     go_wp2_with fail
     refine(JQ l ins A A' A2 c c' c2 _ (h.below hd0) (hg.below hd0) e0 e0' hn hn' hlv (hs.below hd0) hni').mono ?_
     generalize QC l ins=lg at*
     rintro e w1 ⟨rfl,hb1⟩
     have R1:=R0.later hb1
     have L1:=L0.later hb1
     have hd1:=Qa hd0 hb1
     clear hb1 L0 R0 hd0 l0 l1 l2 l3 l4 l5 l6 l7 l8 l9 l10 lf
     go_wp2_with fail
     refine(QZ _ _ _ _).mono ?_
     rw[h2]
     rintro e w2 ⟨rfl,rfl⟩
     have zR:=R1.lt
     obtain⟨⟨r0,r1,r2,r3,r4,r5⟩,rf⟩:=R1.c6
     go_wp2
     exact bodyPost_ret (v:= .tuple #[.agg #[.int .i64 0,.int .i64 0,.int .i64 0,.slice none 0 0,.slice none 0 0,.int .i64 0],.bool false]) (by simp[results, Tryz.results18,go_sem, *]) rfl ⟨none,0,none,0,rfl,Own.none_,Own.none_,by(with_reducible repeat first|assumption|apply bl0|apply blA|apply blD|apply blN|refine blF ?_ ‹_›|(apply blS;(simp<;>omega))),fun g g' e=>by cases e⟩
    ·have h3:inR 1 9999 key=false:=by rw[h2] at hok;simpa using hok
     go_enter Sq.func18, Tryz.ntmps18
     go_wp2_with fail
     refine(Zi l A A' c c' _ (h.below (by(with_reducible repeat first|assumption|apply bl0|apply blA|apply blD|apply blN|refine blF ?_ ‹_›|(apply blS;(simp<;>omega))))) (hg.below (by(with_reducible repeat first|assumption|apply bl0|apply blA|apply blD|apply blN|refine blF ?_ ‹_›|(apply blS;(simp<;>omega))))) e0 e0' hn hn').mono ?_
     rw[hlv]
     rintro e w0 ⟨rfl,hb0⟩
     obtain⟨R0,L0⟩:Bk w0 (w.heap.size+1) 33 #[.int .i64 0,.int .i64 0,.int .i64 0,.slice none 0 0,.slice none 0 0,.int .i64 0]∧Bk w0 w.heap.size 29 #[.int .i64 l.id,.int .i64 l.ticks,.int .i64 l.start.x,.int .i64 l.start.y,.slice A l.walls.length c,.slice A' l.gates.length c',.int .i64 l.fin.lo.x,.int .i64 l.fin.lo.y,.int .i64 l.fin.hi.x,.int .i64 l.fin.hi.y,.int .i64 l.bans]:=by refine⟨Bk.later ?_ hb0,Bk.later ?_ hb0⟩<;>(repeat first|(with_reducible first|assumption|exact kN _ _ _ (by simp)|refine kA ?_ _|refine kD ?_|refine kW ?_ _|apply Bk.set'|refine kF ?_ (by simp<;>omega) _|refine kL ?_ ‹_›|refine kG ?_ ‹_› (by first|omega|simp<;>omega))|exact⟨by with_reducible rfl⟩|exact⟨by simp⟩)
     have hd0:Below w.heap.size w w0:=Qa (by(with_reducible repeat first|assumption|apply bl0|apply blA|apply blD|apply blN|refine blF ?_ ‹_›|(apply blS;(simp<;>omega)))) hb0
     clear hb0
     obtain⟨⟨l0,l1,l2,l3,l4,l5,l6,l7,l8,l9,l10⟩,lf⟩:=L0.c11
     go_wp2_with fail
     refine(JQ l ins A A' A2 c c' c2 _ (h.below hd0) (hg.below hd0) e0 e0' hn hn' hlv (hs.below hd0) hni').mono ?_
     generalize QC l ins=lg at*
     rintro e w1 ⟨rfl,hb1⟩
     have R1:=R0.later hb1
     have L1:=L0.later hb1
     have hd1:=Qa hd0 hb1
     clear hb1 L0 R0 hd0 l0 l1 l2 l3 l4 l5 l6 l7 l8 l9 l10 lf
     go_wp2_with fail
     refine(QZ _ _ _ _).mono ?_
     rw[h2]
     rintro e w2 ⟨rfl,rfl⟩
     go_wp2_with fail
     refine(QZ _ _ _ _).mono ?_
     rw[h3]
     rintro e w2 ⟨rfl,rfl⟩
     have zR:=R1.lt
     obtain⟨⟨r0,r1,r2,r3,r4,r5⟩,rf⟩:=R1.c6
     go_wp2
     exact bodyPost_ret (v:= .tuple #[.agg #[.int .i64 0,.int .i64 0,.int .i64 0,.slice none 0 0,.slice none 0 0,.int .i64 0],.bool false]) (by simp[results, Tryz.results18,go_sem, *]) rfl ⟨none,0,none,0,rfl,Own.none_,Own.none_,by(with_reducible repeat first|assumption|apply bl0|apply blA|apply blD|apply blN|refine blF ?_ ‹_›|(apply blS;(simp<;>omega))),fun g g' e=>by cases e⟩
   ·have hge:0≤QC l ins:=by omega
    clear hlg hok
    go_enter Sq.func18, Tryz.ntmps18
    go_wp2_with fail
    refine(Zi l A A' c c' _ (h.below (by(with_reducible repeat first|assumption|apply bl0|apply blA|apply blD|apply blN|refine blF ?_ ‹_›|(apply blS;(simp<;>omega))))) (hg.below (by(with_reducible repeat first|assumption|apply bl0|apply blA|apply blD|apply blN|refine blF ?_ ‹_›|(apply blS;(simp<;>omega))))) e0 e0' hn hn').mono ?_
    rw[hlv]
    rintro e w0 ⟨rfl,hb0⟩
    obtain⟨R0,L0⟩:Bk w0 (w.heap.size+1) 33 #[.int .i64 0,.int .i64 0,.int .i64 0,.slice none 0 0,.slice none 0 0,.int .i64 0]∧Bk w0 w.heap.size 29 #[.int .i64 l.id,.int .i64 l.ticks,.int .i64 l.start.x,.int .i64 l.start.y,.slice A l.walls.length c,.slice A' l.gates.length c',.int .i64 l.fin.lo.x,.int .i64 l.fin.lo.y,.int .i64 l.fin.hi.x,.int .i64 l.fin.hi.y,.int .i64 l.bans]:=by refine⟨Bk.later ?_ hb0,Bk.later ?_ hb0⟩<;>(repeat first|(with_reducible first|assumption|exact kN _ _ _ (by simp)|refine kA ?_ _|refine kD ?_|refine kW ?_ _|apply Bk.set'|refine kF ?_ (by simp<;>omega) _|refine kL ?_ ‹_›|refine kG ?_ ‹_› (by first|omega|simp<;>omega))|exact⟨by with_reducible rfl⟩|exact⟨by simp⟩)
    have hd0:Below w.heap.size w w0:=Qa (by(with_reducible repeat first|assumption|apply bl0|apply blA|apply blD|apply blN|refine blF ?_ ‹_›|(apply blS;(simp<;>omega)))) hb0
    clear hb0
    obtain⟨⟨l0,l1,l2,l3,l4,l5,l6,l7,l8,l9,l10⟩,lf⟩:=L0.c11
    go_wp2_with fail
    refine(JQ l ins A A' A2 c c' c2 _ (h.below hd0) (hg.below hd0) e0 e0' hn hn' hlv (hs.below hd0) hni').mono ?_
    generalize QC l ins=lg at*
    rintro e w1 ⟨rfl,hb1⟩
    have R1:=R0.later hb1
    have L1:=L0.later hb1
    have hd1:=Qa hd0 hb1
    clear hb1 L0 R0 hd0 l0 l1 l2 l3 l4 l5 l6 l7 l8 l9 l10 lf
    have zR:=R1.lt
    obtain⟨⟨r0,r1,r2,r3,r4,r5⟩,rf⟩:=R1.c6
    go_wp2
    exact bodyPost_ret (v:= .tuple #[.agg #[.int .i64 0,.int .i64 0,.int .i64 0,.slice none 0 0,.slice none 0 0,.int .i64 0],.bool false]) (by simp[results, Tryz.results18,go_sem, *]) rfl ⟨none,0,none,0,rfl,Own.none_,Own.none_,by(with_reducible repeat first|assumption|apply bl0|apply blA|apply blD|apply blN|refine blF ?_ ‹_›|(apply blS;(simp<;>omega))),fun g g' e=>by cases e⟩
 ·obtain⟨h1,h2,h3⟩:=JS.1 hok
  have hR:Hid (Zu l pl key ins=Zv l pl key ins):=Lib.hid (by unfold Zu;rw[hok];rfl)
  rw[hR.out]
  have h2b:=Q5.2 h2
  have h3b:=Q5.2 h3
  obtain⟨hlv,hlg⟩:=J9.1 h1
  have hbase:=Lib.hid (Qhw h1 h2)
  obtain⟨hLG,hl60,_,_,_⟩:=Zp h1
  have hH1:=Qbu h1
  have hHl:(Qq l ins).length≤12:=by omega
  have hsc:=QgY l ins
  obtain⟨i0,hi,hz0,hz1,hz2⟩:=info_parts Sq.infoInp
  clear hok hH1 hLG
  go_enter Sq.func18, Tryz.ntmps18
  go_wp2_with fail
  refine(Zi l A A' c c' _ (h.below (by(with_reducible repeat first|assumption|apply bl0|apply blA|apply blD|apply blN|refine blF ?_ ‹_›|(apply blS;(simp<;>omega))))) (hg.below (by(with_reducible repeat first|assumption|apply bl0|apply blA|apply blD|apply blN|refine blF ?_ ‹_›|(apply blS;(simp<;>omega))))) e0 e0' hn hn').mono ?_
  rw[hlv]
  rintro e w0 ⟨rfl,hb0⟩
  obtain⟨R0,L0⟩:Bk w0 (w.heap.size+1) 33 #[.int .i64 0,.int .i64 0,.int .i64 0,.slice none 0 0,.slice none 0 0,.int .i64 0]∧Bk w0 w.heap.size 29 #[.int .i64 l.id,.int .i64 l.ticks,.int .i64 l.start.x,.int .i64 l.start.y,.slice A l.walls.length c,.slice A' l.gates.length c',.int .i64 l.fin.lo.x,.int .i64 l.fin.lo.y,.int .i64 l.fin.hi.x,.int .i64 l.fin.hi.y,.int .i64 l.bans]:=by refine⟨Bk.later ?_ hb0,Bk.later ?_ hb0⟩<;>(repeat first|(with_reducible first|assumption|exact kN _ _ _ (by simp)|refine kA ?_ _|refine kD ?_|refine kW ?_ _|apply Bk.set'|refine kF ?_ (by simp<;>omega) _|refine kL ?_ ‹_›|refine kG ?_ ‹_› (by first|omega|simp<;>omega))|exact⟨by with_reducible rfl⟩|exact⟨by simp⟩)
  have hd0:Below w.heap.size w w0:=Qa (by(with_reducible repeat first|assumption|apply bl0|apply blA|apply blD|apply blN|refine blF ?_ ‹_›|(apply blS;(simp<;>omega)))) hb0
  clear hb0
  obtain⟨⟨l0,l1,l2,l3,l4,l5,l6,l7,l8,l9,l10⟩,lf⟩:=L0.c11
  go_wp2_with fail
  refine(JQ l ins A A' A2 c c' c2 _ (h.below hd0) (hg.below hd0) e0 e0' hn hn' hlv (hs.below hd0) hni').mono ?_
  generalize QC l ins=lg at*
  rintro e w1 ⟨rfl,hb1⟩
  have R1:=R0.later hb1
  have L1:=L0.later hb1
  have hd1:=Qa hd0 hb1
  clear hb1 L0 R0 hd0 l0 l1 l2 l3 l4 l5 l6 l7 l8 l9 l10 lf
  go_wp2_with fail
  refine(QZ _ _ _ _).mono ?_
  rw[h2b]
  rintro e w2 ⟨rfl,rfl⟩
  go_wp2_with fail
  refine(QZ _ _ _ _).mono ?_
  rw[h3b]
  rintro e w2 ⟨rfl,rfl⟩
  have zL:=L1.lt
  have zR:=R1.lt
  obtain⟨⟨l0,l1,l2,l3,l4,l5,l6,l7,l8,l9,l10⟩,lf⟩:=L1.c11
  clear h2b
  obtain⟨mx,hmx⟩: ∃mx:Int,(if QB l ins<0 then(0:Int) else QB l ins)=mx:=⟨_,rfl⟩
  have HMX:Hid (max (QB l ins) 0=mx):=Lib.hid (by rw[←hmx];split<;>omega)
  have hb63:([]:List Inp).length+ins.length≤maxLen:=by have e0:([]:List Inp).length=0:=rfl;unfold maxLen;omega
  have hb48:(([]:List Inp).length+ins.length)*24≤140737488355328:=by have e0:([]:List Inp).length=0:=rfl;omega
  go_upto_region 3 with fail
  go_cut [10] from 11 (fun rp wc=>∃(X:Nat) (A8 A11:Option Addr) (c8 c11:Nat),rp= .pointer (some ⟨X,0,none⟩)∧Bk wc X 33 #[.int .i64 l.id,.int .i64 pl,.int .i64 mx,.slice A8 ins.length c8,.slice A11 (Qq l ins).length c11,.int .i64 0]∧Bk wc (w.heap.size+1) 33 #[.int .i64 0,.int .i64 0,.int .i64 0,.slice none 0 0,.slice none 0 0,.int .i64 0]∧Own wc (w.heap.size+1+1) 39 3 Qd (.slice A8 ins.length c8) ins∧Own wc (w.heap.size+1+1) 3 1 Qe (.slice A11 (Qq l ins).length c11) (Qq l ins)∧(∀g g',(Value.slice A8 ins.length c8).ownBlock=some g→(Value.slice A11 (Qq l ins).length c11).ownBlock=some g'→g≠g')∧(∀g,(Value.slice A8 ins.length c8).ownBlock=some g→g≠X)∧(∀g,(Value.slice A11 (Qq l ins).length c11).ownBlock=some g→g≠X)∧w.heap.size+1<X∧Below w.heap.size w wc)
  case first=>
   have M1:MkS l A A' c c' w w1:=⟨L1,R1,hd1,zR⟩
   have z1:=M1.z
   clear L1 R1 hd1 hsc hHl zL zR l0 l1 l2 l3 l4 l5 l6 l7 l8 l9 l10 lf h1 h2 h3 hlv
   refine wp_region_noPanic ?_
   refine wp_region_held_drew (S:=(fun w'=>w'.cell? ⟨w.heap.size,0,none⟩=some (.int .i64 l.id)∧w'.cell? ⟨w.heap.size,1,none⟩=some (.int .i64 l.ticks)∧w'.cell? ⟨w.heap.size,2,none⟩=some (.int .i64 l.start.x)∧w'.cell? ⟨w.heap.size,3,none⟩=some (.int .i64 l.start.y)∧w'.cell? ⟨w.heap.size,4,none⟩=some (.slice A l.walls.length c)∧w'.cell? ⟨w.heap.size,5,none⟩=some (.slice A' l.gates.length c')∧w'.cell? ⟨w.heap.size,6,none⟩=some (.int .i64 l.fin.lo.x)∧w'.cell? ⟨w.heap.size,7,none⟩=some (.int .i64 l.fin.lo.y)∧w'.cell? ⟨w.heap.size,8,none⟩=some (.int .i64 l.fin.hi.x)∧w'.cell? ⟨w.heap.size,9,none⟩=some (.int .i64 l.fin.hi.y)∧w'.cell? ⟨w.heap.size,10,none⟩=some (.int .i64 l.bans))) (by kernel_rfl) (QJ M1.drew.L) (fun hHeld=>?_)
   refine QlX (n':=15) (lst':=#[false,false,false,false,false,false,false,false,false,false,false,false,false,false,false]) rfl (by kernel_rfl) (fun W hN=>?_)
   refine hN.take 0 14 31 (v:=?_) (lst':=#[true,false,false,false,false,false,false,false,false,false,false,false,false,false,false]) (by rfl) (by kernel_rfl) (by kernel_rfl) (by kernel_rfl) (fun _ _ _ h=>h) rfl (by kernel_rfl) (Or.inl ⟨by rfl,?yTk0⟩) hHeld ?_
   case yTk0=>(intro w hSw;(try dsimp only at hSw);go_simp;(try with_reducible rfl))
   try simp only[List.setIfInBounds_toArray,List.set_cons_zero,List.set_cons_succ]
   refine hN.take 1 13 32 (v:=?_) (lst':=#[true,true,false,false,false,false,false,false,false,false,false,false,false,false,false]) (by rfl) (by kernel_rfl) (by kernel_rfl) (by kernel_rfl) (fun _ _ _ h=>h) rfl (by kernel_rfl) (Or.inl ⟨by rfl,?yTk1⟩) hHeld ?_
   case yTk1=>(intro w hSw;(try dsimp only at hSw);go_simp;(try with_reducible rfl))
   try simp only[List.setIfInBounds_toArray,List.set_cons_zero,List.set_cons_succ]
   refine hN.take 2 12 33 (v:=?_) (lst':=#[true,true,true,false,false,false,false,false,false,false,false,false,false,false,false]) (by rfl) (by kernel_rfl) (by kernel_rfl) (by kernel_rfl) (fun _ _ _ h=>h) rfl (by kernel_rfl) (Or.inl ⟨by rfl,?yTk2⟩) hHeld ?_
   case yTk2=>(intro w hSw;(try dsimp only at hSw);go_simp;(try with_reducible rfl))
   try simp only[List.setIfInBounds_toArray,List.set_cons_zero,List.set_cons_succ]
   refine hN.take 3 11 34 (v:=?_) (lst':=#[true,true,true,true,false,false,false,false,false,false,false,false,false,false,false]) (by rfl) (by kernel_rfl) (by kernel_rfl) (by kernel_rfl) (fun _ _ _ h=>h) rfl (by kernel_rfl) (Or.inl ⟨by rfl,?yTk3⟩) hHeld ?_
   case yTk3=>(intro w hSw;(try dsimp only at hSw);go_simp;(try with_reducible rfl))
   try simp only[List.setIfInBounds_toArray,List.set_cons_zero,List.set_cons_succ]
   refine hN.take 4 10 35 (v:=?_) (lst':=#[true,true,true,true,true,false,false,false,false,false,false,false,false,false,false]) (by rfl) (by kernel_rfl) (by kernel_rfl) (by kernel_rfl) (fun _ _ _ h=>h) rfl (by kernel_rfl) (Or.inl ⟨by rfl,?yTk4⟩) hHeld ?_
   case yTk4=>(intro w hSw;(try dsimp only at hSw);go_simp;(try with_reducible rfl))
   try simp only[List.setIfInBounds_toArray,List.set_cons_zero,List.set_cons_succ]
   refine hN.take 7 9 38 (v:=?_) (lst':=#[true,true,true,true,true,false,false,true,false,false,false,false,false,false,false]) (by rfl) (by kernel_rfl) (by kernel_rfl) (by kernel_rfl) (fun _ _ _ h=>h) rfl (by kernel_rfl) (Or.inl ⟨by rfl,?yTk7⟩) hHeld ?_
   case yTk7=>(intro w hSw;(try dsimp only at hSw);go_simp;(try with_reducible rfl))
   try simp only[List.setIfInBounds_toArray,List.set_cons_zero,List.set_cons_succ]
   refine hN.take 9 8 40 (v:=?_) (lst':=#[true,true,true,true,true,false,false,true,false,true,false,false,false,false,false]) (by rfl) (by kernel_rfl) (by kernel_rfl) (by kernel_rfl) (fun _ _ _ h=>h) rfl (by kernel_rfl) (Or.inl ⟨by rfl,?yTk9⟩) hHeld ?_
   case yTk9=>(intro w hSw;(try dsimp only at hSw);go_simp;(try with_reducible rfl))
   try simp only[List.setIfInBounds_toArray,List.set_cons_zero,List.set_cons_succ]
   refine hN.take 10 7 41 (v:=?_) (lst':=#[true,true,true,true,true,false,false,true,false,true,true,false,false,false,false]) (by rfl) (by kernel_rfl) (by kernel_rfl) (by kernel_rfl) (fun _ _ _ h=>h) rfl (by kernel_rfl) (Or.inl ⟨by rfl,?yTk10⟩) hHeld ?_
   case yTk10=>(intro w hSw;(try dsimp only at hSw);go_simp;(try with_reducible rfl))
   try simp only[List.setIfInBounds_toArray,List.set_cons_zero,List.set_cons_succ]
   have N31: ∀(u:World) (A8:Option Addr) (c8:Nat) (A11:Option Addr) (c11:Nat) (X:Nat) (M:MkS l A A' c c' w u) (O:Own u (w.heap.size+1+1) 39 3 Qd (.slice A8 ins.length c8) ins) (H:Own u (w.heap.size+1+1) 3 1 Qe (.slice A11 (Qq l ins).length c11) (Qq l ins)) (hsep: ∀g g',(Value.slice A8 ins.length c8).ownBlock=some g→(Value.slice A11 (Qq l ins).length c11).ownBlock=some g'→g≠g') (B:Bk u X 33 #[.int .i64 0,.int .i64 0,.int .i64 0,.slice none 0 0,.slice none 0 0,.int .i64 0]) (zX:w.heap.size+1<X),W 1 #[true,true,true,true,true,true,true,true,true,true,true,true,true,true,false] ⟨#[.agg #[.int .i64 l.id,.int .i64 l.ticks,.int .i64 l.start.x,.int .i64 l.start.y,.slice A l.walls.length c,.slice A' l.gates.length c',.int .i64 l.fin.lo.x,.int .i64 l.fin.lo.y,.int .i64 l.fin.hi.x,.int .i64 l.fin.hi.y,.int .i64 l.bans],.int .i64 pl,.int .i64 key,.slice A2 ins.length c2,.pointer (some ⟨w.heap.size,0,none⟩),undef,undef,undef,.pointer (some ⟨w.heap.size+1,0,none⟩),.bool false,.pointer (some ⟨X,0,none⟩),.agg #[.int .i64 l.id,.int .i64 l.ticks,.int .i64 l.start.x,.int .i64 l.start.y,.slice A l.walls.length c,.slice A' l.gates.length c',.int .i64 l.fin.lo.x,.int .i64 l.fin.lo.y,.int .i64 l.fin.hi.x,.int .i64 l.fin.hi.y,.int .i64 l.bans],.bool true,.bool false,.bool false,.agg #[.int .i64 l.id,.int .i64 l.ticks,.int .i64 l.start.x,.int .i64 l.start.y,.slice A l.walls.length c,.slice A' l.gates.length c',.int .i64 l.fin.lo.x,.int .i64 l.fin.lo.y,.int .i64 l.fin.hi.x,.int .i64 l.fin.hi.y,.int .i64 l.bans],.slice A2 ins.length c2,.int .i64 lg,.bool (decide (0≤lg)),.bool (decide (0≤lg)),.bool (decide (0≤lg)),.int .i64 pl,.bool true,.bool false,.bool (decide (0≤lg)),.bool (decide (0≤lg)),.int .i64 key,.bool true,.bool false,.bool (decide (0≤lg)),undef,.pointer (some ⟨w.heap.size,0,none⟩),.int .i64 l.id,.int .i64 pl,.agg #[.int .i64 l.id,.int .i64 l.ticks,.int .i64 l.start.x,.int .i64 l.start.y,.slice A l.walls.length c,.slice A' l.gates.length c',.int .i64 l.fin.lo.x,.int .i64 l.fin.lo.y,.int .i64 l.fin.hi.x,.int .i64 l.fin.hi.y,.int .i64 l.bans],.slice A2 ins.length c2,.int .i64 (QB l ins),.int .i64 mx,.slice A2 ins.length c2,.slice A8 ins.length c8,.agg #[.int .i64 l.id,.int .i64 l.ticks,.int .i64 l.start.x,.int .i64 l.start.y,.slice A l.walls.length c,.slice A' l.gates.length c',.int .i64 l.fin.lo.x,.int .i64 l.fin.lo.y,.int .i64 l.fin.hi.x,.int .i64 l.fin.hi.y,.int .i64 l.bans],.slice A2 ins.length c2,.slice A11 (Qq l ins).length c11,.agg #[.int .i64 l.id,.int .i64 pl,.int .i64 mx,.slice A8 ins.length c8,.slice A11 (Qq l ins).length c11,.int .i64 0],undef,undef,undef,undef,undef,undef],[]⟩ u:=by
    intro u A8 c8 A11 c11 X M O H hsep B zX
    have z:=M.z
    have hHeld:=QJ M.L
    have zB:=B.lt
    obtain⟨⟨n0,n1,n2,n3,n4,n5⟩,nf⟩:=B.c6
    refine hN.step [14] (by kernel_rfl) (by simp) ?_
    refine NmR.cons (lst':=#[true,true,true,true,true,true,true,true,true,true,true,true,true,true,true]) (by rfl) (by kernel_rfl) (fun K hK=>?_) NmR.nil
    go_simp
    refine hK.out _ _ ?_ ?_
    ·exact QJ (t:=29) (by have L1:=M.L;(repeat first|(with_reducible first|assumption|exact kN _ _ _ (by simp)|refine kA ?_ _|refine kD ?_|refine kW ?_ _|apply Bk.set'|refine kF ?_ (by simp<;>omega) _|refine kL ?_ ‹_›|refine kG ?_ ‹_› (by first|omega|simp<;>omega))|exact⟨by with_reducible rfl⟩|exact⟨by simp⟩))
    try simp only[Act.put,List.setIfInBounds_toArray,List.set_cons_zero,List.set_cons_succ]
    refine(hN _ _ _ _).1 (wpAnyH_done (by kernel_rfl) ?_ _)
    refine NoPanic.normal ?_
    clear hN hHeld
    go_wp2_with fail
    go_meet
    have hX8:=O.ne B (by decide)
    have hXH:=H.ne B (by decide)
    have d11:=M.d
    exact⟨X,A8,A11,c8,c11,rfl,by(repeat first|(with_reducible first|assumption|exact kN _ _ _ (by simp)|refine kA ?_ _|refine kD ?_|refine kW ?_ _|apply Bk.set'|refine kF ?_ (by simp<;>omega) _|refine kL ?_ ‹_›|refine kG ?_ ‹_› (by first|omega|simp<;>omega))|exact⟨by with_reducible rfl⟩|exact⟨by simp⟩),(by have R1:=M.R;repeat(first|(with_reducible exact R1)|(with_reducible refine Bk.far ?_ (by first|omega|(simp;done)|(simp;omega)) _))),by(with_reducible repeat first|assumption|refine Own.fars ?_ ‹_› _|refine Own.alloc ?_ _|refine Own.drew ?_|refine Own.drewN ?_ _|refine Own.set (by first|omega|simp<;>omega) ?_ _|refine Own.later ?_ ‹_›|refine Own.gk ?_ ‹_› (by omega)),by(with_reducible repeat first|assumption|refine Own.fars ?_ ‹_› _|refine Own.alloc ?_ _|refine Own.drew ?_|refine Own.drewN ?_ _|refine Own.set (by first|omega|simp<;>omega) ?_ _|refine Own.later ?_ ‹_›|refine Own.gk ?_ ‹_› (by omega)),hsep,hX8,hXH,zX,by(with_reducible repeat first|assumption|apply bl0|apply blA|apply blD|apply blN|refine blF ?_ ‹_›|(apply blS;(simp<;>omega)))⟩
   have N30: ∀(u:World) (A8:Option Addr) (c8:Nat) (A11:Option Addr) (c11:Nat) (M:MkS l A A' c c' w u) (O:Own u (w.heap.size+1+1) 39 3 Qd (.slice A8 ins.length c8) ins) (H:Own u (w.heap.size+1+1) 3 1 Qe (.slice A11 (Qq l ins).length c11) (Qq l ins)) (hsep: ∀g g',(Value.slice A8 ins.length c8).ownBlock=some g→(Value.slice A11 (Qq l ins).length c11).ownBlock=some g'→g≠g'),W 2 #[true,true,true,true,true,true,true,true,true,true,true,true,true,false,false] ⟨#[.agg #[.int .i64 l.id,.int .i64 l.ticks,.int .i64 l.start.x,.int .i64 l.start.y,.slice A l.walls.length c,.slice A' l.gates.length c',.int .i64 l.fin.lo.x,.int .i64 l.fin.lo.y,.int .i64 l.fin.hi.x,.int .i64 l.fin.hi.y,.int .i64 l.bans],.int .i64 pl,.int .i64 key,.slice A2 ins.length c2,.pointer (some ⟨w.heap.size,0,none⟩),undef,undef,undef,.pointer (some ⟨w.heap.size+1,0,none⟩),.bool false,undef,.agg #[.int .i64 l.id,.int .i64 l.ticks,.int .i64 l.start.x,.int .i64 l.start.y,.slice A l.walls.length c,.slice A' l.gates.length c',.int .i64 l.fin.lo.x,.int .i64 l.fin.lo.y,.int .i64 l.fin.hi.x,.int .i64 l.fin.hi.y,.int .i64 l.bans],.bool true,.bool false,.bool false,.agg #[.int .i64 l.id,.int .i64 l.ticks,.int .i64 l.start.x,.int .i64 l.start.y,.slice A l.walls.length c,.slice A' l.gates.length c',.int .i64 l.fin.lo.x,.int .i64 l.fin.lo.y,.int .i64 l.fin.hi.x,.int .i64 l.fin.hi.y,.int .i64 l.bans],.slice A2 ins.length c2,.int .i64 lg,.bool (decide (0≤lg)),.bool (decide (0≤lg)),.bool (decide (0≤lg)),.int .i64 pl,.bool true,.bool false,.bool (decide (0≤lg)),.bool (decide (0≤lg)),.int .i64 key,.bool true,.bool false,.bool (decide (0≤lg)),undef,.pointer (some ⟨w.heap.size,0,none⟩),.int .i64 l.id,.int .i64 pl,.agg #[.int .i64 l.id,.int .i64 l.ticks,.int .i64 l.start.x,.int .i64 l.start.y,.slice A l.walls.length c,.slice A' l.gates.length c',.int .i64 l.fin.lo.x,.int .i64 l.fin.lo.y,.int .i64 l.fin.hi.x,.int .i64 l.fin.hi.y,.int .i64 l.bans],.slice A2 ins.length c2,.int .i64 (QB l ins),.int .i64 mx,.slice A2 ins.length c2,.slice A8 ins.length c8,.agg #[.int .i64 l.id,.int .i64 l.ticks,.int .i64 l.start.x,.int .i64 l.start.y,.slice A l.walls.length c,.slice A' l.gates.length c',.int .i64 l.fin.lo.x,.int .i64 l.fin.lo.y,.int .i64 l.fin.hi.x,.int .i64 l.fin.hi.y,.int .i64 l.bans],.slice A2 ins.length c2,.slice A11 (Qq l ins).length c11,.agg #[.int .i64 l.id,.int .i64 pl,.int .i64 mx,.slice A8 ins.length c8,.slice A11 (Qq l ins).length c11,.int .i64 0],undef,undef,undef,undef,undef,undef],[]⟩ u:=by
    intro u A8 c8 A11 c11 M O H hsep
    have z:=M.z
    have hHeld:=QJ M.L
    refine hN.step [13] (by kernel_rfl) (by simp) ?_
    refine NmR.cons (lst':=#[true,true,true,true,true,true,true,true,true,true,true,true,true,true,false]) (by rfl) (by kernel_rfl) (fun K hK=>?_) ?_
    ·go_simp
     have M':=M.alloc (.cells #[.int .i64 0,.int .i64 0,.int .i64 0,.slice none 0 0,.slice none 0 0,.int .i64 0] 33)
     refine hK.out _ _ (QJ M'.L) ?_
     try simp only[Act.put,List.setIfInBounds_toArray,List.set_cons_zero,List.set_cons_succ]
     exact N31 _ A8 c8 A11 c11 _ M' (O.alloc _) (H.alloc _) hsep (Bk.new u _ _ rfl) (by omega)
    exact NmR.nil
   have N21: ∀(u:World) (A8:Option Addr) (c8:Nat) (X:Nat) (M:MkS l A A' c c' w u) (O:Own u (w.heap.size+1+1) 39 3 Qd (.slice A8 ins.length c8) ins) (B:Bk u X 33 #[.int .i64 0,.int .i64 0,.int .i64 0,.slice none 0 0,.slice none 0 0,.int .i64 0]) (zX:w.heap.size+1<X),W 3 #[true,true,true,true,true,true,true,true,true,true,true,false,false,true,false] ⟨#[.agg #[.int .i64 l.id,.int .i64 l.ticks,.int .i64 l.start.x,.int .i64 l.start.y,.slice A l.walls.length c,.slice A' l.gates.length c',.int .i64 l.fin.lo.x,.int .i64 l.fin.lo.y,.int .i64 l.fin.hi.x,.int .i64 l.fin.hi.y,.int .i64 l.bans],.int .i64 pl,.int .i64 key,.slice A2 ins.length c2,.pointer (some ⟨w.heap.size,0,none⟩),undef,undef,undef,.pointer (some ⟨w.heap.size+1,0,none⟩),.bool false,.pointer (some ⟨X,0,none⟩),.agg #[.int .i64 l.id,.int .i64 l.ticks,.int .i64 l.start.x,.int .i64 l.start.y,.slice A l.walls.length c,.slice A' l.gates.length c',.int .i64 l.fin.lo.x,.int .i64 l.fin.lo.y,.int .i64 l.fin.hi.x,.int .i64 l.fin.hi.y,.int .i64 l.bans],.bool true,.bool false,.bool false,.agg #[.int .i64 l.id,.int .i64 l.ticks,.int .i64 l.start.x,.int .i64 l.start.y,.slice A l.walls.length c,.slice A' l.gates.length c',.int .i64 l.fin.lo.x,.int .i64 l.fin.lo.y,.int .i64 l.fin.hi.x,.int .i64 l.fin.hi.y,.int .i64 l.bans],.slice A2 ins.length c2,.int .i64 lg,.bool (decide (0≤lg)),.bool (decide (0≤lg)),.bool (decide (0≤lg)),.int .i64 pl,.bool true,.bool false,.bool (decide (0≤lg)),.bool (decide (0≤lg)),.int .i64 key,.bool true,.bool false,.bool (decide (0≤lg)),undef,.pointer (some ⟨w.heap.size,0,none⟩),.int .i64 l.id,.int .i64 pl,.agg #[.int .i64 l.id,.int .i64 l.ticks,.int .i64 l.start.x,.int .i64 l.start.y,.slice A l.walls.length c,.slice A' l.gates.length c',.int .i64 l.fin.lo.x,.int .i64 l.fin.lo.y,.int .i64 l.fin.hi.x,.int .i64 l.fin.hi.y,.int .i64 l.bans],.slice A2 ins.length c2,.int .i64 (QB l ins),.int .i64 mx,.slice A2 ins.length c2,.slice A8 ins.length c8,.agg #[.int .i64 l.id,.int .i64 l.ticks,.int .i64 l.start.x,.int .i64 l.start.y,.slice A l.walls.length c,.slice A' l.gates.length c',.int .i64 l.fin.lo.x,.int .i64 l.fin.lo.y,.int .i64 l.fin.hi.x,.int .i64 l.fin.hi.y,.int .i64 l.bans],.slice A2 ins.length c2,undef,undef,undef,undef,undef,undef,undef,undef],[]⟩ u:=by
    intro u A8 c8 X M O B zX
    have z:=M.z
    have hHeld:=QJ M.L
    refine hN.step [11] (by kernel_rfl) (by simp) ?_
    refine NmR.cons (lst':=#[true,true,true,true,true,true,true,true,true,true,true,true,false,true,false]) (by rfl) (by kernel_rfl) (fun K hK=>?_) ?_
    ·go_simp
     go_at_call 13
     refine(XF l ins _ _ _ _ _ _ _ (h.below M.d) (hg.below M.d) e0 e0' hn hn' (hs.below M.d) hni').mono ?_
     rintro e w11 ⟨A11,c11,rfl,hc11,hH11,hb⟩
     go_wp2_with fail
     have M':=M.later hb
     have hHeld':=QJ M'.L
     refine hK.out _ _ hHeld' ?_
     try simp only[Act.put,List.setIfInBounds_toArray,List.set_cons_zero,List.set_cons_succ]
     refine hN.take 12 1 43 (v:= .agg #[.int .i64 l.id,.int .i64 pl,.int .i64 mx,.slice A8 ins.length c8,.slice A11 (Qq l ins).length c11,.int .i64 0]) (lst':=#[true,true,true,true,true,true,true,true,true,true,true,true,true,true,false]) (by rfl) (by kernel_rfl) (by kernel_rfl) (by kernel_rfl) (fun _ _ _ h=>h) rfl (by kernel_rfl) (Or.inl ⟨by rfl,?yBd⟩) hHeld' ?_
     case yBd=>(intro w hSw;go_simp;(try with_reducible rfl))
     try simp only[Act.put,List.setIfInBounds_toArray,List.set_cons_zero,List.set_cons_succ]
     exact N31 _ _ _ _ _ X M' (O.later hb) (hH11.mono (by omega)) (fun g g' e e'=>by have q1:=(O.lt g e).2;have q2:=(hH11.lt g' e').1;omega) (B.later hb) zX
    exact NmR.nil
   have N20: ∀(u:World) (A8:Option Addr) (c8:Nat) (M:MkS l A A' c c' w u) (O:Own u (w.heap.size+1+1) 39 3 Qd (.slice A8 ins.length c8) ins),W 4 #[true,true,true,true,true,true,true,true,true,true,true,false,false,false,false] ⟨#[.agg #[.int .i64 l.id,.int .i64 l.ticks,.int .i64 l.start.x,.int .i64 l.start.y,.slice A l.walls.length c,.slice A' l.gates.length c',.int .i64 l.fin.lo.x,.int .i64 l.fin.lo.y,.int .i64 l.fin.hi.x,.int .i64 l.fin.hi.y,.int .i64 l.bans],.int .i64 pl,.int .i64 key,.slice A2 ins.length c2,.pointer (some ⟨w.heap.size,0,none⟩),undef,undef,undef,.pointer (some ⟨w.heap.size+1,0,none⟩),.bool false,undef,.agg #[.int .i64 l.id,.int .i64 l.ticks,.int .i64 l.start.x,.int .i64 l.start.y,.slice A l.walls.length c,.slice A' l.gates.length c',.int .i64 l.fin.lo.x,.int .i64 l.fin.lo.y,.int .i64 l.fin.hi.x,.int .i64 l.fin.hi.y,.int .i64 l.bans],.bool true,.bool false,.bool false,.agg #[.int .i64 l.id,.int .i64 l.ticks,.int .i64 l.start.x,.int .i64 l.start.y,.slice A l.walls.length c,.slice A' l.gates.length c',.int .i64 l.fin.lo.x,.int .i64 l.fin.lo.y,.int .i64 l.fin.hi.x,.int .i64 l.fin.hi.y,.int .i64 l.bans],.slice A2 ins.length c2,.int .i64 lg,.bool (decide (0≤lg)),.bool (decide (0≤lg)),.bool (decide (0≤lg)),.int .i64 pl,.bool true,.bool false,.bool (decide (0≤lg)),.bool (decide (0≤lg)),.int .i64 key,.bool true,.bool false,.bool (decide (0≤lg)),undef,.pointer (some ⟨w.heap.size,0,none⟩),.int .i64 l.id,.int .i64 pl,.agg #[.int .i64 l.id,.int .i64 l.ticks,.int .i64 l.start.x,.int .i64 l.start.y,.slice A l.walls.length c,.slice A' l.gates.length c',.int .i64 l.fin.lo.x,.int .i64 l.fin.lo.y,.int .i64 l.fin.hi.x,.int .i64 l.fin.hi.y,.int .i64 l.bans],.slice A2 ins.length c2,.int .i64 (QB l ins),.int .i64 mx,.slice A2 ins.length c2,.slice A8 ins.length c8,.agg #[.int .i64 l.id,.int .i64 l.ticks,.int .i64 l.start.x,.int .i64 l.start.y,.slice A l.walls.length c,.slice A' l.gates.length c',.int .i64 l.fin.lo.x,.int .i64 l.fin.lo.y,.int .i64 l.fin.hi.x,.int .i64 l.fin.hi.y,.int .i64 l.bans],.slice A2 ins.length c2,undef,undef,undef,undef,undef,undef,undef,undef],[]⟩ u:=by
    intro u A8 c8 M O
    have z:=M.z
    have hHeld:=QJ M.L
    refine hN.step [11,13] (by kernel_rfl) (by simp) ?_
    refine NmR.cons (lst':=#[true,true,true,true,true,true,true,true,true,true,true,true,false,false,false]) (by rfl) (by kernel_rfl) (fun K hK=>?_) ?_
    ·go_simp
     go_at_call 13
     refine(XF l ins _ _ _ _ _ _ _ (h.below M.d) (hg.below M.d) e0 e0' hn hn' (hs.below M.d) hni').mono ?_
     rintro e w11 ⟨A11,c11,rfl,hc11,hH11,hb⟩
     go_wp2_with fail
     have M':=M.later hb
     have hHeld':=QJ M'.L
     refine hK.out _ _ hHeld' ?_
     try simp only[Act.put,List.setIfInBounds_toArray,List.set_cons_zero,List.set_cons_succ]
     refine hN.take 12 2 43 (v:= .agg #[.int .i64 l.id,.int .i64 pl,.int .i64 mx,.slice A8 ins.length c8,.slice A11 (Qq l ins).length c11,.int .i64 0]) (lst':=#[true,true,true,true,true,true,true,true,true,true,true,true,true,false,false]) (by rfl) (by kernel_rfl) (by kernel_rfl) (by kernel_rfl) (fun _ _ _ h=>h) rfl (by kernel_rfl) (Or.inl ⟨by rfl,?yBd⟩) hHeld' ?_
     case yBd=>(intro w hSw;go_simp;(try with_reducible rfl))
     try simp only[Act.put,List.setIfInBounds_toArray,List.set_cons_zero,List.set_cons_succ]
     exact N30 _ _ _ _ _ M' (O.later hb) (hH11.mono (by omega)) (fun g g' e e'=>by have q1:=(O.lt g e).2;have q2:=(hH11.lt g' e').1;omega)
    refine NmR.cons (lst':=#[true,true,true,true,true,true,true,true,true,true,true,false,false,true,false]) (by rfl) (by kernel_rfl) (fun K hK=>?_) ?_
    ·go_simp
     have M':=M.alloc (.cells #[.int .i64 0,.int .i64 0,.int .i64 0,.slice none 0 0,.slice none 0 0,.int .i64 0] 33)
     refine hK.out _ _ (QJ M'.L) ?_
     try simp only[Act.put,List.setIfInBounds_toArray,List.set_cons_zero,List.set_cons_succ]
     exact N21 _ A8 c8 _ M' (O.alloc _) (Bk.new u _ _ rfl) (by omega)
    exact NmR.nil
   have N11: ∀(u:World) (X:Nat) (M:MkS l A A' c c' w u) (B:Bk u X 33 #[.int .i64 0,.int .i64 0,.int .i64 0,.slice none 0 0,.slice none 0 0,.int .i64 0]) (zX:w.heap.size+1<X),W 4 #[true,true,true,true,true,true,true,true,false,true,true,false,false,true,false] ⟨#[.agg #[.int .i64 l.id,.int .i64 l.ticks,.int .i64 l.start.x,.int .i64 l.start.y,.slice A l.walls.length c,.slice A' l.gates.length c',.int .i64 l.fin.lo.x,.int .i64 l.fin.lo.y,.int .i64 l.fin.hi.x,.int .i64 l.fin.hi.y,.int .i64 l.bans],.int .i64 pl,.int .i64 key,.slice A2 ins.length c2,.pointer (some ⟨w.heap.size,0,none⟩),undef,undef,undef,.pointer (some ⟨w.heap.size+1,0,none⟩),.bool false,.pointer (some ⟨X,0,none⟩),.agg #[.int .i64 l.id,.int .i64 l.ticks,.int .i64 l.start.x,.int .i64 l.start.y,.slice A l.walls.length c,.slice A' l.gates.length c',.int .i64 l.fin.lo.x,.int .i64 l.fin.lo.y,.int .i64 l.fin.hi.x,.int .i64 l.fin.hi.y,.int .i64 l.bans],.bool true,.bool false,.bool false,.agg #[.int .i64 l.id,.int .i64 l.ticks,.int .i64 l.start.x,.int .i64 l.start.y,.slice A l.walls.length c,.slice A' l.gates.length c',.int .i64 l.fin.lo.x,.int .i64 l.fin.lo.y,.int .i64 l.fin.hi.x,.int .i64 l.fin.hi.y,.int .i64 l.bans],.slice A2 ins.length c2,.int .i64 lg,.bool (decide (0≤lg)),.bool (decide (0≤lg)),.bool (decide (0≤lg)),.int .i64 pl,.bool true,.bool false,.bool (decide (0≤lg)),.bool (decide (0≤lg)),.int .i64 key,.bool true,.bool false,.bool (decide (0≤lg)),undef,.pointer (some ⟨w.heap.size,0,none⟩),.int .i64 l.id,.int .i64 pl,.agg #[.int .i64 l.id,.int .i64 l.ticks,.int .i64 l.start.x,.int .i64 l.start.y,.slice A l.walls.length c,.slice A' l.gates.length c',.int .i64 l.fin.lo.x,.int .i64 l.fin.lo.y,.int .i64 l.fin.hi.x,.int .i64 l.fin.hi.y,.int .i64 l.bans],.slice A2 ins.length c2,.int .i64 (QB l ins),.int .i64 mx,.slice A2 ins.length c2,undef,.agg #[.int .i64 l.id,.int .i64 l.ticks,.int .i64 l.start.x,.int .i64 l.start.y,.slice A l.walls.length c,.slice A' l.gates.length c',.int .i64 l.fin.lo.x,.int .i64 l.fin.lo.y,.int .i64 l.fin.hi.x,.int .i64 l.fin.hi.y,.int .i64 l.bans],.slice A2 ins.length c2,undef,undef,undef,undef,undef,undef,undef,undef],[]⟩ u:=by
    intro u X M B zX
    have z:=M.z
    have hHeld:=QJ M.L
    refine hN.step [8] (by kernel_rfl) (by simp) ?_
    refine NmR.cons (lst':=#[true,true,true,true,true,true,true,true,true,true,true,false,false,true,false]) (by rfl) (by kernel_rfl) (fun K hK=>?_) ?_
    ·have O7:Own u (w.heap.size+1+1) 39 3 Qd (.slice none 0 0) []:=Own.none_
     refine Qad rfl _ _ _ rfl (w.heap.size+1+1) 39 i0 (.agg #[.int .i64 0,.int .i64 0,.bool false]) 3 24 (Sq.und Tryz.underlying30) hi hz0 hz1 hz2 rfl (by decide) Qh Xv _ [] ins (by first|(simp[Act.eval];done)|(simp[Act.eval];rfl)) O7 A2 ins.length c2 (by first|(simp[Act.eval];done)|(simp[Act.eval];rfl)) (hs.below M.d) hA2 hb63 hb48 (by omega) ?_
     intro v8 w8 O8 hg8 hl8
     rw[List.nil_append] at O8
     obtain⟨A8,c8,rfl,hc8,_⟩:=O8.form
     have M':=M.own hg8 (fun g e=>by cases e)
     refine hK.out _ _ (QJ M'.L) ?_
     try simp only[Act.put,List.setIfInBounds_toArray,List.set_cons_zero,List.set_cons_succ]
     exact N21 _ _ _ X M' O8 (B.grown hg8 (by intro e;cases e)) zX
    exact NmR.nil
   have N10: ∀(u:World) (M:MkS l A A' c c' w u),W 5 #[true,true,true,true,true,true,true,true,false,true,true,false,false,false,false] ⟨#[.agg #[.int .i64 l.id,.int .i64 l.ticks,.int .i64 l.start.x,.int .i64 l.start.y,.slice A l.walls.length c,.slice A' l.gates.length c',.int .i64 l.fin.lo.x,.int .i64 l.fin.lo.y,.int .i64 l.fin.hi.x,.int .i64 l.fin.hi.y,.int .i64 l.bans],.int .i64 pl,.int .i64 key,.slice A2 ins.length c2,.pointer (some ⟨w.heap.size,0,none⟩),undef,undef,undef,.pointer (some ⟨w.heap.size+1,0,none⟩),.bool false,undef,.agg #[.int .i64 l.id,.int .i64 l.ticks,.int .i64 l.start.x,.int .i64 l.start.y,.slice A l.walls.length c,.slice A' l.gates.length c',.int .i64 l.fin.lo.x,.int .i64 l.fin.lo.y,.int .i64 l.fin.hi.x,.int .i64 l.fin.hi.y,.int .i64 l.bans],.bool true,.bool false,.bool false,.agg #[.int .i64 l.id,.int .i64 l.ticks,.int .i64 l.start.x,.int .i64 l.start.y,.slice A l.walls.length c,.slice A' l.gates.length c',.int .i64 l.fin.lo.x,.int .i64 l.fin.lo.y,.int .i64 l.fin.hi.x,.int .i64 l.fin.hi.y,.int .i64 l.bans],.slice A2 ins.length c2,.int .i64 lg,.bool (decide (0≤lg)),.bool (decide (0≤lg)),.bool (decide (0≤lg)),.int .i64 pl,.bool true,.bool false,.bool (decide (0≤lg)),.bool (decide (0≤lg)),.int .i64 key,.bool true,.bool false,.bool (decide (0≤lg)),undef,.pointer (some ⟨w.heap.size,0,none⟩),.int .i64 l.id,.int .i64 pl,.agg #[.int .i64 l.id,.int .i64 l.ticks,.int .i64 l.start.x,.int .i64 l.start.y,.slice A l.walls.length c,.slice A' l.gates.length c',.int .i64 l.fin.lo.x,.int .i64 l.fin.lo.y,.int .i64 l.fin.hi.x,.int .i64 l.fin.hi.y,.int .i64 l.bans],.slice A2 ins.length c2,.int .i64 (QB l ins),.int .i64 mx,.slice A2 ins.length c2,undef,.agg #[.int .i64 l.id,.int .i64 l.ticks,.int .i64 l.start.x,.int .i64 l.start.y,.slice A l.walls.length c,.slice A' l.gates.length c',.int .i64 l.fin.lo.x,.int .i64 l.fin.lo.y,.int .i64 l.fin.hi.x,.int .i64 l.fin.hi.y,.int .i64 l.bans],.slice A2 ins.length c2,undef,undef,undef,undef,undef,undef,undef,undef],[]⟩ u:=by
    intro u M
    have z:=M.z
    have hHeld:=QJ M.L
    refine hN.step [8,13] (by kernel_rfl) (by simp) ?_
    refine NmR.cons (lst':=#[true,true,true,true,true,true,true,true,true,true,true,false,false,false,false]) (by rfl) (by kernel_rfl) (fun K hK=>?_) ?_
    ·have O7:Own u (w.heap.size+1+1) 39 3 Qd (.slice none 0 0) []:=Own.none_
     refine Qad rfl _ _ _ rfl (w.heap.size+1+1) 39 i0 (.agg #[.int .i64 0,.int .i64 0,.bool false]) 3 24 (Sq.und Tryz.underlying30) hi hz0 hz1 hz2 rfl (by decide) Qh Xv _ [] ins (by first|(simp[Act.eval];done)|(simp[Act.eval];rfl)) O7 A2 ins.length c2 (by first|(simp[Act.eval];done)|(simp[Act.eval];rfl)) (hs.below M.d) hA2 hb63 hb48 (by omega) ?_
     intro v8 w8 O8 hg8 hl8
     rw[List.nil_append] at O8
     obtain⟨A8,c8,rfl,hc8,_⟩:=O8.form
     have M':=M.own hg8 (fun g e=>by cases e)
     refine hK.out _ _ (QJ M'.L) ?_
     try simp only[Act.put,List.setIfInBounds_toArray,List.set_cons_zero,List.set_cons_succ]
     exact N20 _ _ _ M' O8
    refine NmR.cons (lst':=#[true,true,true,true,true,true,true,true,false,true,true,false,false,true,false]) (by rfl) (by kernel_rfl) (fun K hK=>?_) ?_
    ·go_simp
     have M':=M.alloc (.cells #[.int .i64 0,.int .i64 0,.int .i64 0,.slice none 0 0,.slice none 0 0,.int .i64 0] 33)
     refine hK.out _ _ (QJ M'.L) ?_
     try simp only[Act.put,List.setIfInBounds_toArray,List.set_cons_zero,List.set_cons_succ]
     exact N11 _ _ M' (Bk.new u _ _ rfl) (by omega)
    exact NmR.nil
   have N01: ∀(u:World) (X:Nat) (M:MkS l A A' c c' w u) (B:Bk u X 33 #[.int .i64 0,.int .i64 0,.int .i64 0,.slice none 0 0,.slice none 0 0,.int .i64 0]) (zX:w.heap.size+1<X),W 6 #[true,true,true,true,true,false,false,true,false,true,true,false,false,true,false] ⟨#[.agg #[.int .i64 l.id,.int .i64 l.ticks,.int .i64 l.start.x,.int .i64 l.start.y,.slice A l.walls.length c,.slice A' l.gates.length c',.int .i64 l.fin.lo.x,.int .i64 l.fin.lo.y,.int .i64 l.fin.hi.x,.int .i64 l.fin.hi.y,.int .i64 l.bans],.int .i64 pl,.int .i64 key,.slice A2 ins.length c2,.pointer (some ⟨w.heap.size,0,none⟩),undef,undef,undef,.pointer (some ⟨w.heap.size+1,0,none⟩),.bool false,.pointer (some ⟨X,0,none⟩),.agg #[.int .i64 l.id,.int .i64 l.ticks,.int .i64 l.start.x,.int .i64 l.start.y,.slice A l.walls.length c,.slice A' l.gates.length c',.int .i64 l.fin.lo.x,.int .i64 l.fin.lo.y,.int .i64 l.fin.hi.x,.int .i64 l.fin.hi.y,.int .i64 l.bans],.bool true,.bool false,.bool false,.agg #[.int .i64 l.id,.int .i64 l.ticks,.int .i64 l.start.x,.int .i64 l.start.y,.slice A l.walls.length c,.slice A' l.gates.length c',.int .i64 l.fin.lo.x,.int .i64 l.fin.lo.y,.int .i64 l.fin.hi.x,.int .i64 l.fin.hi.y,.int .i64 l.bans],.slice A2 ins.length c2,.int .i64 lg,.bool (decide (0≤lg)),.bool (decide (0≤lg)),.bool (decide (0≤lg)),.int .i64 pl,.bool true,.bool false,.bool (decide (0≤lg)),.bool (decide (0≤lg)),.int .i64 key,.bool true,.bool false,.bool (decide (0≤lg)),undef,.pointer (some ⟨w.heap.size,0,none⟩),.int .i64 l.id,.int .i64 pl,.agg #[.int .i64 l.id,.int .i64 l.ticks,.int .i64 l.start.x,.int .i64 l.start.y,.slice A l.walls.length c,.slice A' l.gates.length c',.int .i64 l.fin.lo.x,.int .i64 l.fin.lo.y,.int .i64 l.fin.hi.x,.int .i64 l.fin.hi.y,.int .i64 l.bans],.slice A2 ins.length c2,undef,undef,.slice A2 ins.length c2,undef,.agg #[.int .i64 l.id,.int .i64 l.ticks,.int .i64 l.start.x,.int .i64 l.start.y,.slice A l.walls.length c,.slice A' l.gates.length c',.int .i64 l.fin.lo.x,.int .i64 l.fin.lo.y,.int .i64 l.fin.hi.x,.int .i64 l.fin.hi.y,.int .i64 l.bans],.slice A2 ins.length c2,undef,undef,undef,undef,undef,undef,undef,undef],[]⟩ u:=by
    intro u X M B zX
    have z:=M.z
    have hHeld:=QJ M.L
    refine hN.step [5] (by kernel_rfl) (by simp) ?_
    refine NmR.cons (lst':=#[true,true,true,true,true,true,false,true,false,true,true,false,false,true,false]) (by rfl) (by kernel_rfl) (fun K hK=>?_) ?_
    ·go_simp
     go_at_call 21
     refine(Jt l ins _ _ _ _ _ _ _ (h.below M.d) (hg.below M.d) e0 e0' hn hn' (hs.below M.d) hni').mono ?_
     rintro e w7 ⟨rfl,hb⟩
     go_wp2_with fail
     have M':=M.later hb
     have hHeld':=QJ M'.L
     refine hK.out _ _ hHeld' ?_
     try simp only[Act.put,List.setIfInBounds_toArray,List.set_cons_zero,List.set_cons_succ]
     refine hN.take 6 4 37 (v:= .int .i64 mx) (lst':=#[true,true,true,true,true,true,true,true,false,true,true,false,false,true,false]) (by rfl) (by kernel_rfl) (by kernel_rfl) (by kernel_rfl) (fun _ _ _ h=>h) rfl (by kernel_rfl) (Or.inl ⟨by rfl,?yMx⟩) hHeld' ?_
     case yMx=>(intro w hSw;clear hSw hHeld';go_simp;(try simp[hmx]))
     try simp only[Act.put,List.setIfInBounds_toArray,List.set_cons_zero,List.set_cons_succ]
     exact N11 _ X M' (B.later hb) zX
    exact NmR.nil
   have N00: ∀(u:World) (M:MkS l A A' c c' w u),W 7 #[true,true,true,true,true,false,false,true,false,true,true,false,false,false,false] ⟨#[.agg #[.int .i64 l.id,.int .i64 l.ticks,.int .i64 l.start.x,.int .i64 l.start.y,.slice A l.walls.length c,.slice A' l.gates.length c',.int .i64 l.fin.lo.x,.int .i64 l.fin.lo.y,.int .i64 l.fin.hi.x,.int .i64 l.fin.hi.y,.int .i64 l.bans],.int .i64 pl,.int .i64 key,.slice A2 ins.length c2,.pointer (some ⟨w.heap.size,0,none⟩),undef,undef,undef,.pointer (some ⟨w.heap.size+1,0,none⟩),.bool false,undef,.agg #[.int .i64 l.id,.int .i64 l.ticks,.int .i64 l.start.x,.int .i64 l.start.y,.slice A l.walls.length c,.slice A' l.gates.length c',.int .i64 l.fin.lo.x,.int .i64 l.fin.lo.y,.int .i64 l.fin.hi.x,.int .i64 l.fin.hi.y,.int .i64 l.bans],.bool true,.bool false,.bool false,.agg #[.int .i64 l.id,.int .i64 l.ticks,.int .i64 l.start.x,.int .i64 l.start.y,.slice A l.walls.length c,.slice A' l.gates.length c',.int .i64 l.fin.lo.x,.int .i64 l.fin.lo.y,.int .i64 l.fin.hi.x,.int .i64 l.fin.hi.y,.int .i64 l.bans],.slice A2 ins.length c2,.int .i64 lg,.bool (decide (0≤lg)),.bool (decide (0≤lg)),.bool (decide (0≤lg)),.int .i64 pl,.bool true,.bool false,.bool (decide (0≤lg)),.bool (decide (0≤lg)),.int .i64 key,.bool true,.bool false,.bool (decide (0≤lg)),undef,.pointer (some ⟨w.heap.size,0,none⟩),.int .i64 l.id,.int .i64 pl,.agg #[.int .i64 l.id,.int .i64 l.ticks,.int .i64 l.start.x,.int .i64 l.start.y,.slice A l.walls.length c,.slice A' l.gates.length c',.int .i64 l.fin.lo.x,.int .i64 l.fin.lo.y,.int .i64 l.fin.hi.x,.int .i64 l.fin.hi.y,.int .i64 l.bans],.slice A2 ins.length c2,undef,undef,.slice A2 ins.length c2,undef,.agg #[.int .i64 l.id,.int .i64 l.ticks,.int .i64 l.start.x,.int .i64 l.start.y,.slice A l.walls.length c,.slice A' l.gates.length c',.int .i64 l.fin.lo.x,.int .i64 l.fin.lo.y,.int .i64 l.fin.hi.x,.int .i64 l.fin.hi.y,.int .i64 l.bans],.slice A2 ins.length c2,undef,undef,undef,undef,undef,undef,undef,undef],[]⟩ u:=by
    intro u M
    have z:=M.z
    have hHeld:=QJ M.L
    refine hN.step [5,13] (by kernel_rfl) (by simp) ?_
    refine NmR.cons (lst':=#[true,true,true,true,true,true,false,true,false,true,true,false,false,false,false]) (by rfl) (by kernel_rfl) (fun K hK=>?_) ?_
    ·go_simp
     go_at_call 21
     refine(Jt l ins _ _ _ _ _ _ _ (h.below M.d) (hg.below M.d) e0 e0' hn hn' (hs.below M.d) hni').mono ?_
     rintro e w7 ⟨rfl,hb⟩
     go_wp2_with fail
     have M':=M.later hb
     have hHeld':=QJ M'.L
     refine hK.out _ _ hHeld' ?_
     try simp only[Act.put,List.setIfInBounds_toArray,List.set_cons_zero,List.set_cons_succ]
     refine hN.take 6 5 37 (v:= .int .i64 mx) (lst':=#[true,true,true,true,true,true,true,true,false,true,true,false,false,false,false]) (by rfl) (by kernel_rfl) (by kernel_rfl) (by kernel_rfl) (fun _ _ _ h=>h) rfl (by kernel_rfl) (Or.inl ⟨by rfl,?yMx⟩) hHeld' ?_
     case yMx=>(intro w hSw;clear hSw hHeld';go_simp;(try simp[hmx]))
     try simp only[Act.put,List.setIfInBounds_toArray,List.set_cons_zero,List.set_cons_succ]
     exact N10 _ M'
    refine NmR.cons (lst':=#[true,true,true,true,true,false,false,true,false,true,true,false,false,true,false]) (by rfl) (by kernel_rfl) (fun K hK=>?_) ?_
    ·go_simp
     have M':=M.alloc (.cells #[.int .i64 0,.int .i64 0,.int .i64 0,.slice none 0 0,.slice none 0 0,.int .i64 0] 33)
     refine hK.out _ _ (QJ M'.L) ?_
     try simp only[Act.put,List.setIfInBounds_toArray,List.set_cons_zero,List.set_cons_succ]
     exact N01 _ _ M' (Bk.new u _ _ rfl) (by omega)
    exact NmR.nil
   exact N00 _ M1.drew
  case rest=>
   obtain⟨X,A8,A11,c8,c11,rfl,hX,hRr,hP,hH,hsep,hPX,hHX,hXz,hd⟩:=hcut
   have hbok:=Lib.hid (show QL ⟨l.id,pl,mx,ins,Qq l ins,0⟩=true by rw[←HMX.out];exact hbase.out)
   have HRL:Hid (repL ⟨l.id,pl,mx,ins,Qq l ins,0⟩=QK (JV l pl ins)):=Lib.hid (by unfold repL;rw[hbok.out,if_pos rfl];unfold JV;rw[HMX.out])
   have HRB:Hid (QK ⟨l.id,pl,mx,ins,Qq l ins,0⟩=QK (JV l pl ins)):=Lib.hid (by unfold JV;rw[HMX.out])
   have hbd:=QbH hbok.out
   have hrl:=QaQ ⟨l.id,pl,mx,ins,Qq l ins,0⟩
   simp only at hrl
   have hln:(QK ⟨l.id,pl,mx,ins,Qq l ins,0⟩).length≤200:=by omega
   have zX:=hX.lt
   have zR2:=hRr.lt
   clear L1 R1 hd1 hrl h hg hs hmx l0 l1 l2 l3 l4 l5 l6 l7 l8 l9 l10 lf
   obtain⟨⟨x0,x1,x2,x3,x4,x5⟩,xf⟩:=hX.c6
   go_wp2_with fail
   refine(JZ _ _ _ _ ⟨l.id,pl,mx,ins,Qq l ins,0⟩ _ (hP.sl' Qh) (hH.sl' Qi) hni' (by dsimp only;omega) hH.none_cap).mono ?_
   rw[HRL.out]
   rw[HRB.out] at hbd hln
   have HTG:Hid (Zv l pl key ins=⟨l.id,pl,mx,ins,Qq l ins,tagL key (QK (JV l pl ins))⟩):=Lib.hid (by unfold Zv;rw[HMX.out])
   generalize QK (JV l pl ins)=ls at*
   rintro e w8 ⟨A9,c9,rfl,hc9,hO9,hb9⟩
   have X8:=hX.later hb9
   have R8:=hRr.later hb9
   have P8:=hP.later hb9
   have H8:=hH.later hb9
   have hd8:=Qa hd hb9
   clear hX hRr hP hH hd hb9 x0 x1 x2 x3 x4 x5 xf
   go_wp2_with fail
   refine(Qcb key _ _ _ ls _ (hO9.sl' Qi) (by omega) hln hO9.alt h3b hbd).mono ?_
   generalize tagL key ls=tg at*
   rintro e w9 ⟨rfl,hb10⟩
   have X9:=X8.later hb10
   have R9:=R8.later hb10
   have P9:=P8.later hb10
   have H9:=H8.later hb10
   have hd9:=Qa hd8 hb10
   clear X8 R8 P8 H8 hd8 hb10 hO9 hbd
   have z8:=X9.lt
   have y8:=R9.lt
   obtain⟨⟨x0,x1,x2,x3,x4,x5⟩,xf⟩:=X9.c6;obtain⟨⟨y0,y1,y2,y3,y4,y5⟩,yf⟩:=R9.c6
   have fPR: ∀g,(Value.slice A8 ins.length c8).ownBlock=some g→g≠w.heap.size+1:=fun g e=>by have:=(P9.lt g e).1;omega
   have fHR: ∀g,(Value.slice A11 (Qq l ins).length c11).ownBlock=some g→g≠w.heap.size+1:=fun g e=>by have:=(H9.lt g e).1;omega
   go_wp2
   refine bodyPost_ret (v:= .tuple #[.agg #[.int .i64 l.id,.int .i64 pl,.int .i64 mx,.slice A8 ins.length c8,.slice A11 (Qq l ins).length c11,.int .i64 tg],.bool true]) (by simp[results, Tryz.results18,go_sem, *]) rfl ?_
   rw[HTG.out]
   refine⟨A8,c8,A11,c11,rfl,?_,?_,by(with_reducible repeat first|assumption|apply bl0|apply blA|apply blD|apply blN|refine blF ?_ ‹_›|(apply blS;(simp<;>omega))),hsep⟩
   ·refine Own.mono (B:=w.heap.size+1+1) ?_ (by omega)
    (with_reducible repeat first|assumption|refine Own.fars ?_ ‹_› _|refine Own.alloc ?_ _|refine Own.drew ?_|refine Own.drewN ?_ _|refine Own.set (by first|omega|simp<;>omega) ?_ _|refine Own.later ?_ ‹_›|refine Own.gk ?_ ‹_› (by omega))
   ·refine Own.mono (B:=w.heap.size+1+1) ?_ (by omega)
    (with_reducible repeat first|assumption|refine Own.fars ?_ ‹_› _|refine Own.alloc ?_ _|refine Own.drew ?_|refine Own.drewN ?_ _|refine Own.set (by first|omega|simp<;>omega) ?_ _|refine Own.later ?_ ‹_›|refine Own.gk ?_ ‹_› (by omega))
end Go.Proofs.YtpmjcjoeckajgaaGreatDoor
