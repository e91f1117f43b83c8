/- The reference's verdict. Printed by gen/vere.py. (Round C, cards) -/
import Derived.Test.YtpmjcjoeckajgaaGreatDoorVerD
namespace Go.Proofs.YtpmjcjoeckajgaaGreatDoor
open Go.ChangeShapes Go.WideShapes Go.ChangeAt Go.RowKit
set_option maxRecDepth 100000 in
set_option maxHeartbeats 8000000 in
theorem QqR(l:Lev)(r:Rep)(A A' A2 A3:Option Addr)(c c' c2 c3:Nat)(w:World)(h:Sl w 4 Qc A l.walls.length l.walls)(hg:Sl w 4 Qc A' l.gates.length l.gates)(hn1:(l.walls.length:Nat)≤9223372036854775807)(hn2:(l.gates.length:Nat)≤9223372036854775807)(hs:Sl w 3 Qd A2 r.ins.length r.ins)(hs':Sl w 1 Qe A3 r.hs.length r.hs)(hr:QA l r.ins=true)(hn4:r.hs.length≤64):
 Calls Sq.prog 42 #[.agg #[.int .i64 l.id,.int .i64 l.ticks,.int .i64 l.start.x,.int .i64 l.start.y,.slice A l.walls.length c,.slice A' l.gates.length c',.int .i64 l.fin.lo.x,.int .i64 l.fin.lo.y,.int .i64 l.fin.hi.x,.int .i64 l.fin.hi.y,.int .i64 l.bans],.agg #[.int .i64 r.lv,.int .i64 r.pl,.int .i64 r.sc,.slice A2 r.ins.length c2,.slice A3 r.hs.length c3,.int .i64 r.tag]] w fun e w'=>e= .returned (.int .i64 (if(Qg l r.ins r.ins.length).ov=true then 6 else if 0≤Zg (Qq l r.ins) r.hs then 7 else if((Qg l r.ins r.ins.length).dn && decide ((Qg l r.ins r.ins.length).t=r.ins.length))=false then 8 else if(Qg l r.ins r.ins.length).t≠r.sc then 9 else 0))∧Below w.heap.size w w':=by
 obtain⟨hG,h60,_,_,hx⟩:=Zp hr
 have HX:=Lib.hid hx
 have hst:=Qaa l r.ins r.ins.length (Nat.le_refl _)
 obtain⟨tr,hs0⟩: ∃tr,Qg l r.ins r.ins.length=tr:=⟨_,rfl⟩
 obtain⟨H,hH⟩: ∃H,Qq l r.ins=H:=⟨_,rfl⟩
 obtain⟨d,hd⟩: ∃d,Zg H r.hs=d:=⟨_,rfl⟩
 have hH61:H.length≤61:=by rw[←hH];exact Qc0 l r.ins
 rw[hs0] at hst
 rw[hs0,hH,hd]
 have ht0:=hst.1
 have ht1:tr.t≤r.ins.length:=by omega
 have HST:=Lib.hid hs0
 have HHH:=Lib.hid hH
 have HFD:=Lib.hid hd
 have HG:=Lib.hid hG
 clear hst hs0 hH hd hx hG
 obtain⟨vv,hvv⟩: ∃vv,(if tr.ov=true then(6:Int) else if 0≤d then 7 else if(tr.dn && decide (tr.t=r.ins.length))=false then 8 else if tr.t≠r.sc then 9 else 0)=vv:=⟨_,rfl⟩
 rw[hvv]
 have HVC:=Lib.hid hvv.symm
 clear hvv
 go_enter Sq.func42, Tryz.ntmps42
 go_wp2_with fail
 refine(Qas l r.ins r.ins.length A A' A2 c c' c2 _ (h.below (by(with_reducible repeat first|assumption|apply bl0|apply blA|apply blD|apply blN|refine blF ?_ ‹_›|(apply blS;(simp<;>omega))))) (hg.below (by(with_reducible repeat first|assumption|apply bl0|apply blA|apply blD|apply blN|refine blF ?_ ‹_›|(apply blS;(simp<;>omega))))) (hs.below (by(with_reducible repeat first|assumption|apply bl0|apply blA|apply blD|apply blN|refine blF ?_ ‹_›|(apply blS;(simp<;>omega))))) HG.out (Nat.le_refl _) (by omega) HX.out).mono ?_
 rw[HST.out]
 rintro e1 w1 ⟨rfl,hb1⟩
 have d1:Below w.heap.size w w1:=Qa (by(with_reducible repeat first|assumption|apply bl0|apply blA|apply blD|apply blN|refine blF ?_ ‹_›|(apply blS;(simp<;>omega)))) hb1
 obtain⟨L1,P1⟩:Bk w1 w.heap.size 29 #[.int .i64 l.id,.int .i64 l.ticks,.int .i64 l.start.x,.int .i64 l.start.y,.slice A l.walls.length c,.slice A' l.gates.length c',.int .i64 l.fin.lo.x,.int .i64 l.fin.lo.y,.int .i64 l.fin.hi.x,.int .i64 l.fin.hi.y,.int .i64 l.bans]∧Bk w1 (w.heap.size+1) 33 #[.int .i64 r.lv,.int .i64 r.pl,.int .i64 r.sc,.slice A2 r.ins.length c2,.slice A3 r.hs.length c3,.int .i64 r.tag]:=by refine⟨Bk.later ?_ hb1,Bk.later ?_ hb1⟩<;>(repeat first|(with_reducible first|assumption|exact kN _ _ _ (by first|assumption|simp<;>omega)|refine kA ?_ _|refine kD ?_|refine kW ?_ _|apply Bk.set'|refine kF ?_ (by simp<;>omega) _)|exact⟨by with_reducible rfl⟩|exact⟨by simp⟩)
 have y1:=d1.size
 have zP1:=P1.lt
 clear hb1
 obtain⟨⟨l0,l1,l2,l3,l4,l5,l6,l7,l8,l9,l10⟩,lf⟩:=L1.c11
 obtain⟨⟨p0,p1,p2,p3,p4,p5⟩,pf⟩:=P1.c6
 cases hov:tr.ov
 rotate_left
 ·obtain rfl:vv=6:=by rw[HVC.out];rw[if_pos hov]
  go_wp2
  go_ret
  exact⟨rfl,by(with_reducible repeat first|assumption|apply bl0|apply blA|apply blD|apply blN|refine blF ?_ ‹_›|(apply blS;(simp<;>omega)))⟩
 have HVC:=Lib.hid (HVC.out.trans (if_neg (by rw[hov];simp)))
 go_wp2
 go_region_held3 (fun w'=>(w'.cell? ⟨w.heap.size,0,none⟩=some (.int .i64 l.id)∧w'.cell? ⟨w.heap.size,1,none⟩=some (.int .i64 l.ticks)∧w'.cell? ⟨w.heap.size,2,none⟩=some (.int .i64 l.start.x)∧w'.cell? ⟨w.heap.size,3,none⟩=some (.int .i64 l.start.y)∧w'.cell? ⟨w.heap.size,4,none⟩=some (.slice A l.walls.length c)∧w'.cell? ⟨w.heap.size,5,none⟩=some (.slice A' l.gates.length c')∧w'.cell? ⟨w.heap.size,6,none⟩=some (.int .i64 l.fin.lo.x)∧w'.cell? ⟨w.heap.size,7,none⟩=some (.int .i64 l.fin.lo.y)∧w'.cell? ⟨w.heap.size,8,none⟩=some (.int .i64 l.fin.hi.x)∧w'.cell? ⟨w.heap.size,9,none⟩=some (.int .i64 l.fin.hi.y)∧w'.cell? ⟨w.heap.size,10,none⟩=some (.int .i64 l.bans))∧(w'.cell? ⟨w.heap.size+1,0,none⟩=some (.int .i64 r.lv)∧w'.cell? ⟨w.heap.size+1,1,none⟩=some (.int .i64 r.pl)∧w'.cell? ⟨w.heap.size+1,2,none⟩=some (.int .i64 r.sc)∧w'.cell? ⟨w.heap.size+1,3,none⟩=some (.slice A2 r.ins.length c2)∧w'.cell? ⟨w.heap.size+1,4,none⟩=some (.slice A3 r.hs.length c3)∧w'.cell? ⟨w.heap.size+1,5,none⟩=some (.int .i64 r.tag)))
  (first|(refine⟨ZX L1 ?_,Zt P1 ?_⟩<;>((with_reducible repeat first|assumption|apply bl0|apply blA|apply blD|apply blN|refine blF ?_ ‹_›|(apply blS;(simp<;>omega)));done)))
  ((first
    |(go_at_call 56;refine(JJ l r.ins A A' A2 c c' c2 _ (h.below (Qa d1 (by(with_reducible repeat first|assumption|apply bl0|apply blA|apply blD|apply blN|refine blF ?_ ‹_›|(apply blS;(simp<;>omega)))))) (hg.below (Qa d1 (by(with_reducible repeat first|assumption|apply bl0|apply blA|apply blD|apply blN|refine blF ?_ ‹_›|(apply blS;(simp<;>omega)))))) (hs.below (Qa d1 (by(with_reducible repeat first|assumption|apply bl0|apply blA|apply blD|apply blN|refine blF ?_ ‹_›|(apply blS;(simp<;>omega)))))) hn1 hn2 (by omega)).mono ?_;rw[HHH.out];rintro e1 w6 ⟨A5,c5,rfl,hc5,hO6,hb6⟩;have Q6:Bk w6 w1.heap.size 86 #[.int .i64 tr.t,.int .i64 tr.p.x,.int .i64 tr.p.y,.int .i64 tr.f.x,.int .i64 tr.f.y,.int .i64 tr.d,.int .i64 tr.g,.bool tr.dn,.bool false]:=Bk.later (by(repeat first|(with_reducible first|assumption|exact kN _ _ _ (by first|assumption|simp<;>omega)|refine kA ?_ _|refine kD ?_|refine kW ?_ _|apply Bk.set'|refine kF ?_ (by simp<;>omega) _)|exact⟨by with_reducible rfl⟩|exact⟨by simp⟩)) hb6)
    |(go_at_call 93;refine(Qaw A5 A3 H.length r.hs.length c5 c3 H r.hs _ ((hO6.sl' Qi).below (by(with_reducible repeat first|assumption|apply bl0|apply blA|apply blD|apply blN|refine blF ?_ ‹_›|(apply blS;(simp<;>omega))))) (hs'.below (Qa d1 (by(with_reducible repeat first|assumption|apply bl0|apply blA|apply blD|apply blN|refine blF ?_ ‹_›|(apply blS;(simp<;>omega)))))) (by omega) (by omega)).mono ?_;rw[HFD.out];rintro e1 w7 ⟨rfl,hb7⟩;have Q7:=Q6.later hb7)))
 have b7:Below w1.heap.size w1 w7:=by(with_reducible repeat first|assumption|apply bl0|apply blA|apply blD|apply blN|refine blF ?_ ‹_›|(apply blS;(simp<;>omega)))
 clear hb6 hb7 hO6 Q6
 have hb7:=b7
 clear b7
 have d7:Below w.heap.size w w7:=Qa (by(with_reducible repeat first|assumption|apply bl0|apply blA|apply blD|apply blN|refine blF ?_ ‹_›|(apply blS;(simp<;>omega)))) hb7
 obtain⟨L7,P7⟩:Bk w7 w.heap.size 29 #[.int .i64 l.id,.int .i64 l.ticks,.int .i64 l.start.x,.int .i64 l.start.y,.slice A l.walls.length c,.slice A' l.gates.length c',.int .i64 l.fin.lo.x,.int .i64 l.fin.lo.y,.int .i64 l.fin.hi.x,.int .i64 l.fin.hi.y,.int .i64 l.bans]∧Bk w7 (w.heap.size+1) 33 #[.int .i64 r.lv,.int .i64 r.pl,.int .i64 r.sc,.slice A2 r.ins.length c2,.slice A3 r.hs.length c3,.int .i64 r.tag]:=by refine⟨Bk.later ?_ hb7,Bk.later ?_ hb7⟩<;>(repeat first|(with_reducible first|assumption|exact kN _ _ _ (by first|assumption|simp<;>omega)|refine kA ?_ _|refine kD ?_|refine kW ?_ _|apply Bk.set'|refine kF ?_ (by simp<;>omega) _)|exact⟨by with_reducible rfl⟩|exact⟨by simp⟩)
 have y7:=d7.size
 have zP7:=P7.lt
 clear hb7 L1 P1 d1 zP1 y1 l0 l1 l2 l3 l4 l5 l6 l7 l8 l9 l10 lf p0 p1 p2 p3 p4 p5 pf
 obtain⟨⟨l0,l1,l2,l3,l4,l5,l6,l7,l8,l9,l10⟩,lf⟩:=L7.c11
 obtain⟨⟨p0,p1,p2,p3,p4,p5⟩,pf⟩:=P7.c6
 have zQ:=Q7.lt
 obtain⟨⟨q0,q1,q2,q3,q4,q5,q6,q7,q8⟩,qf⟩:=Q7.c9
 by_cases hd0:0≤d
 ·obtain rfl:vv=7:=by rw[HVC.out];rw[if_pos hd0]
  go_wp2
  go_ret
  exact⟨rfl,by(with_reducible repeat first|assumption|apply bl0|apply blA|apply blD|apply blN|refine blF ?_ ‹_›|(apply blS;(simp<;>omega)))⟩
 have HVC:=Lib.hid (HVC.out.trans (if_neg hd0))
 cases hdn:tr.dn
 ·obtain rfl:vv=8:=by rw[HVC.out];rw[hdn];rfl
  rw[hdn] at q7
  go_wp2
  go_ret
  exact⟨rfl,by(with_reducible repeat first|assumption|apply bl0|apply blA|apply blD|apply blN|refine blF ?_ ‹_›|(apply blS;(simp<;>omega)))⟩
 rw[hdn] at q7
 by_cases htt:tr.t<(r.ins.length:Int)
 ·obtain rfl:vv=8:=by rw[HVC.out];rw[hdn,decide_eq_false (by omega)];rfl
  have hne:(tr.t == (r.ins.length:Int))=false:=by rw[beq_eq_false_iff_ne];omega
  go_wp2
  go_ret
  exact⟨rfl,by(with_reducible repeat first|assumption|apply bl0|apply blA|apply blD|apply blN|refine blF ?_ ‹_›|(apply blS;(simp<;>omega)))⟩
 have heq:(tr.t == (r.ins.length:Int))=true:=by rw[beq_iff_eq];omega
 have HVC:=Lib.hid (HVC.out.trans (if_neg (by rw[hdn,decide_eq_true (show tr.t=(r.ins.length:Int) by omega)];simp)))
 by_cases hsc:tr.t=r.sc
 ·obtain rfl:vv=0:=by rw[HVC.out];rw[if_neg (by simpa using hsc)]
  have hsb:(tr.t == r.sc)=true:=by rw[beq_iff_eq];exact hsc
  clear hsc
  go_wp2
  go_ret
  exact⟨rfl,by(with_reducible repeat first|assumption|apply bl0|apply blA|apply blD|apply blN|refine blF ?_ ‹_›|(apply blS;(simp<;>omega)))⟩
 ·obtain rfl:vv=9:=by rw[HVC.out];rw[if_pos hsc]
  have hsb:(tr.t == r.sc)=false:=by rw[beq_eq_false_iff_ne];exact hsc
  go_wp2
  go_ret
  exact⟨rfl,by(with_reducible repeat first|assumption|apply bl0|apply blA|apply blD|apply blN|refine blF ?_ ‹_›|(apply blS;(simp<;>omega)))⟩
set_option maxRecDepth 100000 in
set_option maxHeartbeats 8000000 in
theorem Qe8(l:Lev)(key:Int)(r:Rep)(A A' A2 A3:Option Addr)(c c' c2 c3:Nat)(w:World)(h:Sl w 4 Qc A l.walls.length l.walls)(hg:Sl w 4 Qc A' l.gates.length l.gates)(hn1:(l.walls.length:Nat)≤9223372036854775807)(hn2:(l.gates.length:Nat)≤9223372036854775807)(hs:Sl w 3 Qd A2 r.ins.length r.ins)(hs':Sl w 1 Qe A3 r.hs.length r.hs)(e3:A3=none→c3=0)(hn3:(r.ins.length:Nat)≤9223372036854775807)(hn4:(r.hs.length:Nat)≤9223372036854775807):
 Calls Sq.prog 12 #[.agg #[.int .i64 l.id,.int .i64 l.ticks,.int .i64 l.start.x,.int .i64 l.start.y,.slice A l.walls.length c,.slice A' l.gates.length c',.int .i64 l.fin.lo.x,.int .i64 l.fin.lo.y,.int .i64 l.fin.hi.x,.int .i64 l.fin.hi.y,.int .i64 l.bans],.int .i64 key,.agg #[.int .i64 r.lv,.int .i64 r.pl,.int .i64 r.sc,.slice A2 r.ins.length c2,.slice A3 r.hs.length c3,.int .i64 r.tag]] w fun e w'=>e= .returned (.int .i64 (QM l key r))∧Below w.heap.size w w':=by
 obtain⟨vd,hvd⟩: ∃vd,QM l key r=vd:=⟨_,rfl⟩
 rw[hvd]
 have HVD:=Lib.hid hvd
 clear hvd
 obtain⟨bv,hv⟩: ∃b,QL r=b:=⟨_,rfl⟩
 obtain⟨bL,hL⟩: ∃b,QE l=b:=⟨_,rfl⟩
 go_enter Sq.func12, Tryz.ntmps12
 go_wp2_with fail
 refine(XR A2 A3 c2 c3 r _ (hs.below (by(with_reducible repeat first|assumption|apply bl0|apply blA|apply blD|apply blN|refine blF ?_ ‹_›|(apply blS;(simp<;>omega))))) (hs'.below (by(with_reducible repeat first|assumption|apply bl0|apply blA|apply blD|apply blN|refine blF ?_ ‹_›|(apply blS;(simp<;>omega))))) hn3 hn4).mono ?_
 rw[hv]
 rintro e1 w1 ⟨rfl,hb1⟩
 have d1:Below w.heap.size w w1:=Qa (by(with_reducible repeat first|assumption|apply bl0|apply blA|apply blD|apply blN|refine blF ?_ ‹_›|(apply blS;(simp<;>omega)))) hb1
 obtain⟨L1,P1⟩:Bk w1 w.heap.size 29 #[.int .i64 l.id,.int .i64 l.ticks,.int .i64 l.start.x,.int .i64 l.start.y,.slice A l.walls.length c,.slice A' l.gates.length c',.int .i64 l.fin.lo.x,.int .i64 l.fin.lo.y,.int .i64 l.fin.hi.x,.int .i64 l.fin.hi.y,.int .i64 l.bans]∧Bk w1 (w.heap.size+1) 33 #[.int .i64 r.lv,.int .i64 r.pl,.int .i64 r.sc,.slice A2 r.ins.length c2,.slice A3 r.hs.length c3,.int .i64 r.tag]:=by refine⟨Bk.later ?_ hb1,Bk.later ?_ hb1⟩<;>(repeat first|(with_reducible first|assumption|exact kN _ _ _ (by first|assumption|simp<;>omega)|refine kA ?_ _|refine kD ?_|refine kW ?_ _|apply Bk.set'|refine kF ?_ (by simp<;>omega) _)|exact⟨by with_reducible rfl⟩|exact⟨by simp⟩)
 have y1:=d1.size
 have zP1:=P1.lt
 clear hb1
 obtain⟨⟨l0,l1,l2,l3,l4,l5,l6,l7,l8,l9,l10⟩,lf⟩:=L1.c11
 obtain⟨⟨p0,p1,p2,p3,p4,p5⟩,pf⟩:=P1.c6
 cases bv
 ·obtain rfl:vd=1:=by rw[←HVD.out];unfold QM;rw[hv];rfl
  go_wp2
  go_ret
  exact⟨rfl,by(with_reducible repeat first|assumption|apply bl0|apply blA|apply blD|apply blN|refine blF ?_ ‹_›|(apply blS;(simp<;>omega)))⟩
 obtain⟨hsz,hsz2,htg⟩:=Qkh hv
 go_wp2_with fail
 refine(ZH l A A' c c' _ (h.below (by(with_reducible repeat first|assumption|apply bl0|apply blA|apply blD|apply blN|refine blF ?_ ‹_›|(apply blS;(simp<;>omega))))) (hg.below (by(with_reducible repeat first|assumption|apply bl0|apply blA|apply blD|apply blN|refine blF ?_ ‹_›|(apply blS;(simp<;>omega))))) hn1 hn2).mono ?_
 rw[hL]
 rintro e1 w2 ⟨rfl,hb2⟩
 have d2:Below w.heap.size w w2:=Qa (by(with_reducible repeat first|assumption|apply bl0|apply blA|apply blD|apply blN|refine blF ?_ ‹_›|(apply blS;(simp<;>omega)))) hb2
 obtain⟨L2,P2⟩:Bk w2 w.heap.size 29 #[.int .i64 l.id,.int .i64 l.ticks,.int .i64 l.start.x,.int .i64 l.start.y,.slice A l.walls.length c,.slice A' l.gates.length c',.int .i64 l.fin.lo.x,.int .i64 l.fin.lo.y,.int .i64 l.fin.hi.x,.int .i64 l.fin.hi.y,.int .i64 l.bans]∧Bk w2 (w.heap.size+1) 33 #[.int .i64 r.lv,.int .i64 r.pl,.int .i64 r.sc,.slice A2 r.ins.length c2,.slice A3 r.hs.length c3,.int .i64 r.tag]:=by refine⟨Bk.later ?_ hb2,Bk.later ?_ hb2⟩<;>(repeat first|(with_reducible first|assumption|exact kN _ _ _ (by first|assumption|simp<;>omega)|refine kA ?_ _|refine kD ?_|refine kW ?_ _|apply Bk.set'|refine kF ?_ (by simp<;>omega) _)|exact⟨by with_reducible rfl⟩|exact⟨by simp⟩)
 have y2:=d2.size
 have zP2:=P2.lt
 clear hb2 L1 P1 d1 zP1 y1 l0 l1 l2 l3 l4 l5 l6 l7 l8 l9 l10 lf p0 p1 p2 p3 p4 p5 pf
 obtain⟨⟨l0,l1,l2,l3,l4,l5,l6,l7,l8,l9,l10⟩,lf⟩:=L2.c11
 obtain⟨⟨p0,p1,p2,p3,p4,p5⟩,pf⟩:=P2.c6
 cases bL
 ·obtain rfl:vd=2:=by rw[←HVD.out];unfold QM;rw[hv,hL];rfl
  go_wp2
  go_ret
  exact⟨rfl,by(with_reducible repeat first|assumption|apply bl0|apply blA|apply blD|apply blN|refine blF ?_ ‹_›|(apply blS;(simp<;>omega)))⟩
 have hbn:=(XP.1 hL).2.2.2.2.2.2.2.2.1
 cases hid:(l.id == r.lv)
 ·obtain rfl:vd=2:=by rw[←HVD.out];unfold QM;rw[hv,hL,hid];rfl
  go_wp2
  go_ret
  exact⟨rfl,by(with_reducible repeat first|assumption|apply bl0|apply blA|apply blD|apply blN|refine blF ?_ ‹_›|(apply blS;(simp<;>omega)))⟩
 cases hk:inR 1 9999 key
 ·obtain rfl:vd=3:=by rw[←HVD.out];unfold QM;rw[hv,hL,hid,hk];rfl
  go_wp2_with fail
  refine(Xt _ _ _ _).mono ?_
  rw[hk]
  rintro e1 w0 ⟨rfl,rfl⟩
  go_wp2
  go_ret
  exact⟨rfl,by(with_reducible repeat first|assumption|apply bl0|apply blA|apply blD|apply blN|refine blF ?_ ‹_›|(apply blS;(simp<;>omega)))⟩
 obtain⟨ls,hls⟩: ∃ls,QK r=ls:=⟨_,rfl⟩
 have HRS:=Lib.hid hls
 have hlb:=QbH hv
 have hll:=QaQ r
 rw[hls] at hlb hll
 have hln:ls.length≤200:=by omega
 have hki:QN key:=by have:=Q5.1 hk;unfold QN;omega
 have HLI:=Lib.hid (show∀x∈ls,QN x from fun x hx=>by have:=hlb x hx;unfold QN;omega)
 obtain⟨tg,htg2⟩: ∃tg,tagL key ls=tg:=⟨_,rfl⟩
 have HTS:=Lib.hid htg2
 clear hlb hll hls htg2
 obtain⟨lx,hlx⟩: ∃lx,QC l r.ins=lx:=⟨_,rfl⟩
 have HLX:=Lib.hid hlx
 clear hlx
 go_wp2_with fail
 refine(Xt _ _ _ _).mono ?_
 rw[hk]
 rintro e1 w0 ⟨rfl,rfl⟩
 go_wp2
 go_region_held3 (fun w'=>(w'.cell? ⟨w.heap.size+1,0,none⟩=some (.int .i64 r.lv)∧w'.cell? ⟨w.heap.size+1,1,none⟩=some (.int .i64 r.pl)∧w'.cell? ⟨w.heap.size+1,2,none⟩=some (.int .i64 r.sc)∧w'.cell? ⟨w.heap.size+1,3,none⟩=some (.slice A2 r.ins.length c2)∧w'.cell? ⟨w.heap.size+1,4,none⟩=some (.slice A3 r.hs.length c3)∧w'.cell? ⟨w.heap.size+1,5,none⟩=some (.int .i64 r.tag)))
  (first|(refine Zt P2 ?_;((with_reducible repeat first|assumption|apply bl0|apply blA|apply blD|apply blN|refine blF ?_ ‹_›|(apply blS;(simp<;>omega)));done)))
  ((first
    |(go_at_call 40;refine(Qc7 A2 A3 c2 c3 r _ hv (hs.below (Qa d2 (by(with_reducible repeat first|assumption|apply bl0|apply blA|apply blD|apply blN|refine blF ?_ ‹_›|(apply blS;(simp<;>omega)))))) (hs'.below (Qa d2 (by(with_reducible repeat first|assumption|apply bl0|apply blA|apply blD|apply blN|refine blF ?_ ‹_›|(apply blS;(simp<;>omega)))))) e3).mono ?_;rw[HRS.out];rintro e1 w4 ⟨A4,c4,rfl,hc4,hO3,hb3⟩)
    |(go_at_call 39;refine(QdI key A4 ls.length c4 ls _ ((hO3.sl' Qi).below (by(with_reducible repeat first|assumption|apply bl0|apply blA|apply blD|apply blN|refine blF ?_ ‹_›|(apply blS;(simp<;>omega))))) (by omega) hki HLI.out).mono ?_;rw[HTS.out];rintro e1 w9 ⟨rfl,rfl⟩)))
 have b4:Below w2.heap.size w2 w4:=by(with_reducible repeat first|assumption|apply bl0|apply blA|apply blD|apply blN|refine blF ?_ ‹_›|(apply blS;(simp<;>omega)))
 clear hb3 hO3
 have hb4:=b4
 clear b4
 have d4:Below w.heap.size w w4:=Qa (by(with_reducible repeat first|assumption|apply bl0|apply blA|apply blD|apply blN|refine blF ?_ ‹_›|(apply blS;(simp<;>omega)))) hb4
 obtain⟨L4,P4⟩:Bk w4 w.heap.size 29 #[.int .i64 l.id,.int .i64 l.ticks,.int .i64 l.start.x,.int .i64 l.start.y,.slice A l.walls.length c,.slice A' l.gates.length c',.int .i64 l.fin.lo.x,.int .i64 l.fin.lo.y,.int .i64 l.fin.hi.x,.int .i64 l.fin.hi.y,.int .i64 l.bans]∧Bk w4 (w.heap.size+1) 33 #[.int .i64 r.lv,.int .i64 r.pl,.int .i64 r.sc,.slice A2 r.ins.length c2,.slice A3 r.hs.length c3,.int .i64 r.tag]:=by refine⟨Bk.later ?_ hb4,Bk.later ?_ hb4⟩<;>(repeat first|(with_reducible first|assumption|exact kN _ _ _ (by first|assumption|simp<;>omega)|refine kA ?_ _|refine kD ?_|refine kW ?_ _|apply Bk.set'|refine kF ?_ (by simp<;>omega) _)|exact⟨by with_reducible rfl⟩|exact⟨by simp⟩)
 have y4:=d4.size
 have zP4:=P4.lt
 clear hb4 L2 P2 d2 zP2 y2 l0 l1 l2 l3 l4 l5 l6 l7 l8 l9 l10 lf p0 p1 p2 p3 p4 p5 pf
 obtain⟨⟨l0,l1,l2,l3,l4,l5,l6,l7,l8,l9,l10⟩,lf⟩:=L4.c11
 obtain⟨⟨p0,p1,p2,p3,p4,p5⟩,pf⟩:=P4.c6
 cases hq:(tg == r.tag)
 ·obtain rfl:vd=4:=by rw[←HVD.out];unfold QM;rw[hv,hL,hid,hk,HRS.out,HTS.out,show(r.tag == tg)=false by rw[beq_eq_false_iff_ne] at hq⊢;exact fun h=>hq h.symm];rfl
  go_wp2
  go_ret
  exact⟨rfl,by(with_reducible repeat first|assumption|apply bl0|apply blA|apply blD|apply blN|refine blF ?_ ‹_›|(apply blS;(simp<;>omega)))⟩
 obtain⟨vv,hvv⟩: ∃vv,(if(Qg l r.ins r.ins.length).ov=true then(6:Int) else if 0≤Zg (Qq l r.ins) r.hs then 7 else if((Qg l r.ins r.ins.length).dn && decide ((Qg l r.ins r.ins.length).t=r.ins.length))=false then 8 else if(Qg l r.ins r.ins.length).t≠r.sc then 9 else 0)=vv:=⟨_,rfl⟩
 have HVC:=Lib.hid (show vd=if 0≤lx then 5 else vv by rw[←HVD.out];unfold QM;rw[hv,hL,hid,hk,HRS.out,HTS.out,show(r.tag == tg)=true by rw[beq_iff_eq] at hq⊢;exact hq.symm,HLX.out,hvv];rfl)
 have HVV:=Lib.hid hvv
 clear HVD hvv
 go_wp2_with fail
 refine(Qa7 l r.ins A A' A2 c c' c2 _ (hs.below (by(with_reducible repeat first|assumption|apply bl0|apply blA|apply blD|apply blN|refine blF ?_ ‹_›|(apply blS;(simp<;>omega))))) hn3 (by omega) (by omega)).mono ?_
 rw[HLX.out]
 rintro e1 w5 ⟨rfl,hb5⟩
 have d5:Below w.heap.size w w5:=Qa (by(with_reducible repeat first|assumption|apply bl0|apply blA|apply blD|apply blN|refine blF ?_ ‹_›|(apply blS;(simp<;>omega)))) hb5
 obtain⟨L5,P5⟩:Bk w5 w.heap.size 29 #[.int .i64 l.id,.int .i64 l.ticks,.int .i64 l.start.x,.int .i64 l.start.y,.slice A l.walls.length c,.slice A' l.gates.length c',.int .i64 l.fin.lo.x,.int .i64 l.fin.lo.y,.int .i64 l.fin.hi.x,.int .i64 l.fin.hi.y,.int .i64 l.bans]∧Bk w5 (w.heap.size+1) 33 #[.int .i64 r.lv,.int .i64 r.pl,.int .i64 r.sc,.slice A2 r.ins.length c2,.slice A3 r.hs.length c3,.int .i64 r.tag]:=by refine⟨Bk.later ?_ hb5,Bk.later ?_ hb5⟩<;>(repeat first|(with_reducible first|assumption|exact kN _ _ _ (by first|assumption|simp<;>omega)|refine kA ?_ _|refine kD ?_|refine kW ?_ _|apply Bk.set'|refine kF ?_ (by simp<;>omega) _)|exact⟨by with_reducible rfl⟩|exact⟨by simp⟩)
 have y5:=d5.size
 have zP5:=P5.lt
 clear hb5 L4 P4 d4 zP4 y4 l0 l1 l2 l3 l4 l5 l6 l7 l8 l9 l10 lf p0 p1 p2 p3 p4 p5 pf
 obtain⟨⟨l0,l1,l2,l3,l4,l5,l6,l7,l8,l9,l10⟩,lf⟩:=L5.c11
 obtain⟨⟨p0,p1,p2,p3,p4,p5⟩,pf⟩:=P5.c6
 by_cases hge:0≤lx
 ·obtain rfl:vd=5:=by rw[HVC.out,if_pos hge]
  go_wp2
  go_ret
  exact⟨rfl,by(with_reducible repeat first|assumption|apply bl0|apply blA|apply blD|apply blN|refine blF ?_ ‹_›|(apply blS;(simp<;>omega)))⟩
 obtain rfl:vd=vv:=by rw[HVC.out,if_neg hge]
 have hr:QA l r.ins=true:=J9.2 ⟨hL,by rw[HLX.out];omega⟩
 have HR:=Lib.hid hr
 clear hr
 go_wp2_with fail
 refine(QqR l r A A' A2 A3 c c' c2 c3 _ (h.below (by(with_reducible repeat first|assumption|apply bl0|apply blA|apply blD|apply blN|refine blF ?_ ‹_›|(apply blS;(simp<;>omega))))) (hg.below (by(with_reducible repeat first|assumption|apply bl0|apply blA|apply blD|apply blN|refine blF ?_ ‹_›|(apply blS;(simp<;>omega))))) hn1 hn2 (hs.below (by(with_reducible repeat first|assumption|apply bl0|apply blA|apply blD|apply blN|refine blF ?_ ‹_›|(apply blS;(simp<;>omega))))) (hs'.below (by(with_reducible repeat first|assumption|apply bl0|apply blA|apply blD|apply blN|refine blF ?_ ‹_›|(apply blS;(simp<;>omega))))) HR.out (by omega)).mono ?_
 rw[HVV.out]
 rintro e1 w6 ⟨rfl,hb6⟩
 go_wp2
 go_ret
 exact⟨rfl,by(with_reducible repeat first|assumption|apply bl0|apply blA|apply blD|apply blN|refine blF ?_ ‹_›|(apply blS;(simp<;>omega)))⟩
end Go.Proofs.YtpmjcjoeckajgaaGreatDoor
