/- The verdict on a replay: program and reference. Printed by gen/verc.py. (Round C, cards) -/
import Derived.Test.YtpmjcjoeckajgaaGreatDoorErrIs
import Derived.Test.YtpmjcjoeckajgaaGreatDoorDvgR
import Derived.Test.YtpmjcjoeckajgaaGreatDoorZRepl
import Derived.Test.YtpmjcjoeckajgaaGreatDoorRunQ
import Derived.Test.YtpmjcjoeckajgaaGreatDoorImpV
import Derived.Test.YtpmjcjoeckajgaaGreatDoorMkL
namespace Go.Proofs.YtpmjcjoeckajgaaGreatDoor
open Go.ChangeShapes Go.WideShapes Go.ChangeAt Go.RowKit
def QM(l:Lev)(key:Int)(r:Rep):Int:=
 if QL r=false then 1 else if(QE l && (l.id == r.lv))=false then 2 else if inR 1 9999 key=false then 3 else if(r.tag == tagL key (QK r))=false then 4 else if 0≤QC l r.ins then 5
 else if(Qg l r.ins r.ins.length).ov=true then 6 else if 0≤Zg (Qq l r.ins) r.hs then 7 else if((Qg l r.ins r.ins.length).dn && decide ((Qg l r.ins r.ins.length).t=r.ins.length))=false then 8 else if(Qg l r.ins r.ins.length).t≠r.sc then 9 else 0
def errV(az:Nat→Addr)(k:Int):Value:=if k≤0 then .nilIface else .iface 245 (.pointer (some (az (k.toNat - 1))))
structure Jj(az:Nat→Addr)(w:World):Prop where
 c: ∀k,k<9→w.cell? ⟨k,0,none⟩=some (.iface 245 (.pointer (some (az k))))
 z:9≤w.heap.size
 ne: ∀i j,i<9→j<9→i≠j→az i≠az j
 r: ∀i,i<9→∃c t,w.heap[(az i).block]? =some (.cells c t (0,0))
theorem Jj.below{az:Nat→Addr}{w w':World}(h:Jj az w)(hb:Below w.heap.size w w'):Jj az w':=
 ⟨fun k hk=>(hb.cell (show k<w.heap.size by have:=h.z;omega)).trans (h.c k hk),Nat.le_trans h.z hb.size,h.ne,fun i hi=>by
   obtain⟨c,t,hc⟩:=h.r i hi
   exact⟨c,t,(hb.block _ (Array.getElem?_eq_some_iff.1 hc).1).trans hc⟩⟩
theorem Qkh{r:Rep}(h:QL r=true):r.ins.length≤60∧r.hs.length≤12∧0≤r.tag:=by
 simp only[QL,Bool.and_eq_true,Q5] at h
 obtain⟨h1,h2,h3,h4,h5,h6,h7⟩:=h
 obtain⟨hv,hl⟩:=Ja.1 h4
 have h8:=Q5.1 h6
 unfold lenB at h5
 simp at h5
 omega
set_option maxRecDepth 100000 in
theorem Qqh(key:Int)(A:Option Addr)(n c:Nat)(l:List Int)(tg:Int)(w:World)(hs:Sl w 1 Qe A n l)(hn:(n:Nat)≤9223372036854775807)(h2:n≤200)(hA: ∀a,A=some a→a.block<w.heap.size)(hk:inR 1 9999 key=true)(hl: ∀x∈l,0≤x∧x≤1000002)(ht:0≤tg):
 Calls Sq.prog 78 #[.int .i64 key,.slice A n c,.int .i64 tg] w fun e w'=>e= .returned (.bool (tg == tagL key l))∧Below w.heap.size w w':=by
 have HL:=Lib.hid hl
 obtain⟨tv,htv⟩: ∃tv,tagL key l=tv:=⟨_,rfl⟩
 rw[htv]
 have HTV:=Lib.hid htv
 clear hl htv
 go_enter Sq.func78, Tryz.ntmps78
 go_wp2_with fail
 refine(Qcb key A n c l _ hs hn h2 hA hk HL.out).mono ?_
 rw[HTV.out]
 rintro e w1 ⟨rfl,hb1⟩
 go_wp2
 go_ret
 exact⟨rfl,by(with_reducible repeat first|assumption|apply bl0|apply blA|apply blD|apply blN|refine blF ?_ ‹_›|(apply blS;(simp<;>omega)))⟩
set_option maxRecDepth 100000 in
set_option maxHeartbeats 8000000 in
theorem Qqc(az:Nat→Addr)(l:Lev)(key:Int)(r:Rep)(A A' A2 A3:Option Addr)(c c' c2 c3:Nat)(w:World)(h:Sl w 4 Qc A l.walls.length l.walls)(hg:Sl w 4 Qc A' l.gates.length l.gates)(e:A=none→c=0)(e':A'=none→c'=0)(hn1:(l.walls.length:Nat)≤9223372036854775807)(hn2:(l.gates.length:Nat)≤9223372036854775807)(hs:Sl w 3 Qd A2 r.ins.length r.ins)(hs':Sl w 1 Qe A3 r.hs.length r.hs)(e3:A3=none→c3=0)(hn3:(r.ins.length:Nat)≤9223372036854775807)(hn4:(r.hs.length:Nat)≤9223372036854775807)(sz:Jj az w):
 Calls Sq.prog 34 #[.agg #[.int .i64 l.id,.int .i64 l.ticks,.int .i64 l.start.x,.int .i64 l.start.y,.slice A l.walls.length c,.slice A' l.gates.length c',.int .i64 l.fin.lo.x,.int .i64 l.fin.lo.y,.int .i64 l.fin.hi.x,.int .i64 l.fin.hi.y,.int .i64 l.bans],.int .i64 key,.agg #[.int .i64 r.lv,.int .i64 r.pl,.int .i64 r.sc,.slice A2 r.ins.length c2,.slice A3 r.hs.length c3,.int .i64 r.tag]] w fun e w'=>e= .returned (errV az (QM l key r))∧Below w.heap.size w w':=by
 have SZ:=Lib.hid sz
 have zz:=sz.z
 clear sz
 obtain⟨vd,hvd⟩: ∃vd,QM l key r=vd:=⟨_,rfl⟩
 rw[hvd]
 have HVD:=Lib.hid hvd
 clear hvd
 obtain⟨bv,hv⟩: ∃b,QL r=b:=⟨_,rfl⟩
 obtain⟨bL,hL⟩: ∃b,QE l=b:=⟨_,rfl⟩
 go_enter Sq.func34, Tryz.ntmps34
 go_wp2_with fail
 refine(Xh A2 A3 c2 c3 r _ (hs.below (by(with_reducible repeat first|assumption|apply bl0|apply blA|apply blD|apply blN|refine blF ?_ ‹_›|(apply blS;(simp<;>omega))))) (hs'.below (by(with_reducible repeat first|assumption|apply bl0|apply blA|apply blD|apply blN|refine blF ?_ ‹_›|(apply blS;(simp<;>omega))))) hn3 hn4).mono ?_
 rw[hv]
 rintro e1 w1 ⟨rfl,hb1⟩
 have d1:Below w.heap.size w w1:=Qa (by(with_reducible repeat first|assumption|apply bl0|apply blA|apply blD|apply blN|refine blF ?_ ‹_›|(apply blS;(simp<;>omega)))) hb1
 obtain⟨L1,P1⟩:Bk w1 w.heap.size 29 #[.int .i64 l.id,.int .i64 l.ticks,.int .i64 l.start.x,.int .i64 l.start.y,.slice A l.walls.length c,.slice A' l.gates.length c',.int .i64 l.fin.lo.x,.int .i64 l.fin.lo.y,.int .i64 l.fin.hi.x,.int .i64 l.fin.hi.y,.int .i64 l.bans]∧Bk w1 (w.heap.size+1) 33 #[.int .i64 r.lv,.int .i64 r.pl,.int .i64 r.sc,.slice A2 r.ins.length c2,.slice A3 r.hs.length c3,.int .i64 r.tag]:=by refine⟨Bk.later ?_ hb1,Bk.later ?_ hb1⟩<;>(repeat first|(with_reducible first|assumption|exact kN _ _ _ (by first|assumption|simp<;>omega)|refine kA ?_ _|refine kD ?_|refine kW ?_ _|apply Bk.set'|refine kF ?_ (by simp<;>omega) _)|exact⟨by with_reducible rfl⟩|exact⟨by simp⟩)
 have y1:=d1.size
 have zP1:=P1.lt
 clear hb1
 obtain⟨⟨l0,l1,l2,l3,l4,l5,l6,l7,l8,l9,l10⟩,lf⟩:=L1.c11
 obtain⟨⟨p0,p1,p2,p3,p4,p5⟩,pf⟩:=P1.c6
 cases bv
 ·obtain rfl:vd=1:=by rw[←HVD.out];unfold QM;rw[hv];rfl
  have gk:=(SZ.out.below (d1)).c 0 (by omega)
  have gz:0<w1.heap.size:=Nat.lt_of_lt_of_le (by omega) (SZ.out.below (d1)).z
  go_wp2
  go_ret
  exact⟨rfl,by(with_reducible repeat first|assumption|apply bl0|apply blA|apply blD|apply blN|refine blF ?_ ‹_›|(apply blS;(simp<;>omega)))⟩
 obtain⟨hsz,hsz2,htg⟩:=Qkh hv
 go_wp2_with fail
 refine(Zi l A A' c c' _ (h.below (by(with_reducible repeat first|assumption|apply bl0|apply blA|apply blD|apply blN|refine blF ?_ ‹_›|(apply blS;(simp<;>omega))))) (hg.below (by(with_reducible repeat first|assumption|apply bl0|apply blA|apply blD|apply blN|refine blF ?_ ‹_›|(apply blS;(simp<;>omega))))) e e' hn1 hn2).mono ?_
 rw[hL]
 rintro e1 w2 ⟨rfl,hb2⟩
 have d2:Below w.heap.size w w2:=Qa (by(with_reducible repeat first|assumption|apply bl0|apply blA|apply blD|apply blN|refine blF ?_ ‹_›|(apply blS;(simp<;>omega)))) hb2
 obtain⟨L2,P2⟩:Bk w2 w.heap.size 29 #[.int .i64 l.id,.int .i64 l.ticks,.int .i64 l.start.x,.int .i64 l.start.y,.slice A l.walls.length c,.slice A' l.gates.length c',.int .i64 l.fin.lo.x,.int .i64 l.fin.lo.y,.int .i64 l.fin.hi.x,.int .i64 l.fin.hi.y,.int .i64 l.bans]∧Bk w2 (w.heap.size+1) 33 #[.int .i64 r.lv,.int .i64 r.pl,.int .i64 r.sc,.slice A2 r.ins.length c2,.slice A3 r.hs.length c3,.int .i64 r.tag]:=by refine⟨Bk.later ?_ hb2,Bk.later ?_ hb2⟩<;>(repeat first|(with_reducible first|assumption|exact kN _ _ _ (by first|assumption|simp<;>omega)|refine kA ?_ _|refine kD ?_|refine kW ?_ _|apply Bk.set'|refine kF ?_ (by simp<;>omega) _)|exact⟨by with_reducible rfl⟩|exact⟨by simp⟩)
 have y2:=d2.size
 have zP2:=P2.lt
 clear hb2 L1 P1 d1 zP1 y1 l0 l1 l2 l3 l4 l5 l6 l7 l8 l9 l10 lf p0 p1 p2 p3 p4 p5 pf
 obtain⟨⟨l0,l1,l2,l3,l4,l5,l6,l7,l8,l9,l10⟩,lf⟩:=L2.c11
 obtain⟨⟨p0,p1,p2,p3,p4,p5⟩,pf⟩:=P2.c6
 cases bL
 ·obtain rfl:vd=2:=by rw[←HVD.out];unfold QM;rw[hv,hL];rfl
  have gk:=(SZ.out.below (d2)).c 1 (by omega)
  have gz:1<w2.heap.size:=Nat.lt_of_lt_of_le (by omega) (SZ.out.below (d2)).z
  go_wp2
  go_ret
  exact⟨rfl,by(with_reducible repeat first|assumption|apply bl0|apply blA|apply blD|apply blN|refine blF ?_ ‹_›|(apply blS;(simp<;>omega)))⟩
 have hbn:=(XP.1 hL).2.2.2.2.2.2.2.2.1
 cases hid:(l.id == r.lv)
 ·obtain rfl:vd=2:=by rw[←HVD.out];unfold QM;rw[hv,hL,hid];rfl
  have gk:=(SZ.out.below (d2)).c 1 (by omega)
  have gz:1<w2.heap.size:=Nat.lt_of_lt_of_le (by omega) (SZ.out.below (d2)).z
  go_wp2
  go_ret
  exact⟨rfl,by(with_reducible repeat first|assumption|apply bl0|apply blA|apply blD|apply blN|refine blF ?_ ‹_›|(apply blS;(simp<;>omega)))⟩
 cases hk:inR 1 9999 key
 ·obtain rfl:vd=3:=by rw[←HVD.out];unfold QM;rw[hv,hL,hid,hk];rfl
  go_wp2_with fail
  refine(QZ _ _ _ _).mono ?_
  rw[hk]
  rintro e1 w0 ⟨rfl,rfl⟩
  have gk:=(SZ.out.below (d2)).c 2 (by omega)
  have gz:2<w2.heap.size:=Nat.lt_of_lt_of_le (by omega) (SZ.out.below (d2)).z
  go_wp2
  go_ret
  exact⟨rfl,by(with_reducible repeat first|assumption|apply bl0|apply blA|apply blD|apply blN|refine blF ?_ ‹_›|(apply blS;(simp<;>omega)))⟩
 obtain⟨ls,hls⟩: ∃ls,repL r=ls:=⟨_,rfl⟩
 have hls2:QK r=ls:=by rw[←hls];unfold repL;rw[hv,if_pos rfl]
 have HRL:=Lib.hid hls
 have hlb:=QbH hv
 have hll:=QaQ r
 rw[hls2] at hlb hll
 have hln:ls.length≤200:=by omega
 have HLB:=Lib.hid (show∀x∈ls,0≤x∧x≤1000002 from fun x hx=>by have:=hlb x hx;omega)
 clear hlb hll hls
 obtain⟨bq,hq⟩: ∃b,(r.tag == tagL key ls)=b:=⟨_,rfl⟩
 have HTG:=Lib.hid hq
 have HL2:=Lib.hid hls2
 clear hq hls2
 go_wp2_with fail
 refine(QZ _ _ _ _).mono ?_
 rw[hk]
 rintro e1 w0 ⟨rfl,rfl⟩
 go_wp2
 go_region_held3 (fun w'=>(w'.cell? ⟨w.heap.size+1,0,none⟩=some (.int .i64 r.lv)∧w'.cell? ⟨w.heap.size+1,1,none⟩=some (.int .i64 r.pl)∧w'.cell? ⟨w.heap.size+1,2,none⟩=some (.int .i64 r.sc)∧w'.cell? ⟨w.heap.size+1,3,none⟩=some (.slice A2 r.ins.length c2)∧w'.cell? ⟨w.heap.size+1,4,none⟩=some (.slice A3 r.hs.length c3)∧w'.cell? ⟨w.heap.size+1,5,none⟩=some (.int .i64 r.tag)))
  (first|(refine Zt P2 ?_;((with_reducible repeat first|assumption|apply bl0|apply blA|apply blD|apply blN|refine blF ?_ ‹_›|(apply blS;(simp<;>omega)));done)))
  ((first
    |(go_at_call 15;refine(JZ A2 A3 c2 c3 r _ (hs.below (Qa d2 (by(with_reducible repeat first|assumption|apply bl0|apply blA|apply blD|apply blN|refine blF ?_ ‹_›|(apply blS;(simp<;>omega)))))) (hs'.below (Qa d2 (by(with_reducible repeat first|assumption|apply bl0|apply blA|apply blD|apply blN|refine blF ?_ ‹_›|(apply blS;(simp<;>omega)))))) hn3 hn4 e3).mono ?_;rw[HRL.out];rintro e1 w3 ⟨A4,c4,rfl,hc4,hO3,hb3⟩)
    |(go_at_call 78;refine(Qqh key A4 ls.length c4 ls r.tag _ ((hO3.sl' Qi).below (by(with_reducible repeat first|assumption|apply bl0|apply blA|apply blD|apply blN|refine blF ?_ ‹_›|(apply blS;(simp<;>omega))))) (by omega) (by omega) (fun a e=>Nat.lt_of_lt_of_le (hO3.alt a e) (by first|exact Nat.le_refl _|simp)) hk HLB.out htg).mono ?_;rw[HTG.out];rintro e1 w4 ⟨rfl,hb4⟩)))
 have b4:Below w2.heap.size w2 w4:=by(with_reducible repeat first|assumption|apply bl0|apply blA|apply blD|apply blN|refine blF ?_ ‹_›|(apply blS;(simp<;>omega)))
 clear hb3 hb4 hO3
 have hb4:=b4
 clear b4
 have d4:Below w.heap.size w w4:=Qa (by(with_reducible repeat first|assumption|apply bl0|apply blA|apply blD|apply blN|refine blF ?_ ‹_›|(apply blS;(simp<;>omega)))) hb4
 obtain⟨L4,P4⟩:Bk w4 w.heap.size 29 #[.int .i64 l.id,.int .i64 l.ticks,.int .i64 l.start.x,.int .i64 l.start.y,.slice A l.walls.length c,.slice A' l.gates.length c',.int .i64 l.fin.lo.x,.int .i64 l.fin.lo.y,.int .i64 l.fin.hi.x,.int .i64 l.fin.hi.y,.int .i64 l.bans]∧Bk w4 (w.heap.size+1) 33 #[.int .i64 r.lv,.int .i64 r.pl,.int .i64 r.sc,.slice A2 r.ins.length c2,.slice A3 r.hs.length c3,.int .i64 r.tag]:=by refine⟨Bk.later ?_ hb4,Bk.later ?_ hb4⟩<;>(repeat first|(with_reducible first|assumption|exact kN _ _ _ (by first|assumption|simp<;>omega)|refine kA ?_ _|refine kD ?_|refine kW ?_ _|apply Bk.set'|refine kF ?_ (by simp<;>omega) _)|exact⟨by with_reducible rfl⟩|exact⟨by simp⟩)
 have y4:=d4.size
 have zP4:=P4.lt
 clear hb4 L2 P2 d2 zP2 y2 l0 l1 l2 l3 l4 l5 l6 l7 l8 l9 l10 lf p0 p1 p2 p3 p4 p5 pf
 obtain⟨⟨l0,l1,l2,l3,l4,l5,l6,l7,l8,l9,l10⟩,lf⟩:=L4.c11
 obtain⟨⟨p0,p1,p2,p3,p4,p5⟩,pf⟩:=P4.c6
 cases bq
 ·obtain rfl:vd=4:=by rw[←HVD.out];unfold QM;rw[hv,hL,hid,hk,HL2.out,HTG.out];rfl
  have gk:=(SZ.out.below (d4)).c 3 (by omega)
  have gz:3<w4.heap.size:=Nat.lt_of_lt_of_le (by omega) (SZ.out.below (d4)).z
  go_wp2
  go_ret
  exact⟨rfl,by(with_reducible repeat first|assumption|apply bl0|apply blA|apply blD|apply blN|refine blF ?_ ‹_›|(apply blS;(simp<;>omega)))⟩
 obtain⟨lx,hlx⟩: ∃lx,QC l r.ins=lx:=⟨_,rfl⟩
 obtain⟨s,hs0⟩: ∃s,Qg l r.ins r.ins.length=s:=⟨_,rfl⟩
 obtain⟨H,hH⟩: ∃H,Qq l r.ins=H:=⟨_,rfl⟩
 obtain⟨d,hd⟩: ∃d,Zg H r.hs=d:=⟨_,rfl⟩
 have HVC:=Lib.hid (show vd=if 0≤lx then 5 else if s.ov=true then 6 else if 0≤d then 7 else if(s.dn && decide (s.t=r.ins.length))=false then 8 else if s.t≠r.sc then 9 else 0 by rw[←HVD.out];unfold QM;rw[hv,hL,hid,hk,HL2.out,HTG.out,hlx,hs0,hH,hd];rfl)
 clear HVD
 have hH61:H.length≤61:=by rw[←hH];exact Qc0 l r.ins
 have HLX:=Lib.hid hlx
 have HST:=Lib.hid hs0
 have HHH:=Lib.hid hH
 have HFD:=Lib.hid hd
 clear hlx hs0 hH hd
 obtain⟨tr,htr⟩: ∃tr,toR l r.ins r.ins.length=tr:=⟨_,rfl⟩
 obtain⟨ok,hto⟩: ∃ok,toOk l r.ins r.ins.length=ok:=⟨_,rfl⟩
 have HTR:=Lib.hid htr
 have HTO:=Lib.hid hto
 clear htr hto
 go_wp2_with fail
 refine(XQ l r.ins r.ins.length A A' A2 c c' c2 _ (h.below (by(with_reducible repeat first|assumption|apply bl0|apply blA|apply blD|apply blN|refine blF ?_ ‹_›|(apply blS;(simp<;>omega))))) (hg.below (by(with_reducible repeat first|assumption|apply bl0|apply blA|apply blD|apply blN|refine blF ?_ ‹_›|(apply blS;(simp<;>omega))))) e e' hn1 hn2 (hs.below (by(with_reducible repeat first|assumption|apply bl0|apply blA|apply blD|apply blN|refine blF ?_ ‹_›|(apply blS;(simp<;>omega))))) hn3).mono ?_
 rw[HTR.out,HTO.out]
 rintro e1 w5 ⟨rfl,hb5⟩
 have d5:Below w.heap.size w w5:=Qa (by(with_reducible repeat first|assumption|apply bl0|apply blA|apply blD|apply blN|refine blF ?_ ‹_›|(apply blS;(simp<;>omega)))) hb5
 obtain⟨L5,P5⟩:Bk w5 w.heap.size 29 #[.int .i64 l.id,.int .i64 l.ticks,.int .i64 l.start.x,.int .i64 l.start.y,.slice A l.walls.length c,.slice A' l.gates.length c',.int .i64 l.fin.lo.x,.int .i64 l.fin.lo.y,.int .i64 l.fin.hi.x,.int .i64 l.fin.hi.y,.int .i64 l.bans]∧Bk w5 (w.heap.size+1) 33 #[.int .i64 r.lv,.int .i64 r.pl,.int .i64 r.sc,.slice A2 r.ins.length c2,.slice A3 r.hs.length c3,.int .i64 r.tag]:=by refine⟨Bk.later ?_ hb5,Bk.later ?_ hb5⟩<;>(repeat first|(with_reducible first|assumption|exact kN _ _ _ (by first|assumption|simp<;>omega)|refine kA ?_ _|refine kD ?_|refine kW ?_ _|apply Bk.set'|refine kF ?_ (by simp<;>omega) _)|exact⟨by with_reducible rfl⟩|exact⟨by simp⟩)
 have y5:=d5.size
 have zP5:=P5.lt
 clear hb5 L4 P4 d4 zP4 y4 l0 l1 l2 l3 l4 l5 l6 l7 l8 l9 l10 lf p0 p1 p2 p3 p4 p5 pf
 obtain⟨⟨l0,l1,l2,l3,l4,l5,l6,l7,l8,l9,l10⟩,lf⟩:=L5.c11
 obtain⟨⟨p0,p1,p2,p3,p4,p5⟩,pf⟩:=P5.c6
 by_cases hge:0≤lx
 ·obtain rfl:ok=false:=by rw[←HTO.out];refine QlN ?_;unfold QA;rw[hL,HLX.out];simp;omega
  obtain rfl:vd=5:=by rw[HVC.out];rw[if_pos hge]
  have gk:=(SZ.out.below (d5)).c 4 (by omega)
  have gz:4<w5.heap.size:=Nat.lt_of_lt_of_le (by omega) (SZ.out.below (d5)).z
  go_wp2
  go_ret
  exact⟨rfl,by(with_reducible repeat first|assumption|apply bl0|apply blA|apply blD|apply blN|refine blF ?_ ‹_›|(apply blS;(simp<;>omega)))⟩
 have hr:QA l r.ins=true:=J9.2 ⟨hL,by rw[HLX.out];omega⟩
 obtain rfl:ok=true:=by rw[←HTO.out];exact QcJ hr (Nat.le_refl _)
 obtain rfl:tr=s:=by rw[←HTR.out,←HST.out];exact JR hr (Nat.le_refl _)
 have hst:=Qaa l r.ins r.ins.length (Nat.le_refl _)
 rw[HST.out] at hst
 have ht0:=hst.1
 have ht1:tr.t≤r.ins.length:=by omega
 clear hst
 have HVC:=Lib.hid (HVC.out.trans (if_neg hge))
 cases hov:tr.ov
 rotate_left
 ·obtain rfl:vd=6:=by rw[HVC.out];rw[if_pos hov]
  have gk:=(SZ.out.below (d5)).c 5 (by omega)
  have gz:5<w5.heap.size:=Nat.lt_of_lt_of_le (by omega) (SZ.out.below (d5)).z
  go_wp2
  go_ret
  exact⟨rfl,by(with_reducible repeat first|assumption|apply bl0|apply blA|apply blD|apply blN|refine blF ?_ ‹_›|(apply blS;(simp<;>omega)))⟩
 have HVC:=Lib.hid (HVC.out.trans (if_neg (by rw[hov];simp)))
 go_wp2
 go_region_held3 (fun w'=>(w'.cell? ⟨w.heap.size,0,none⟩=some (.int .i64 l.id)∧w'.cell? ⟨w.heap.size,1,none⟩=some (.int .i64 l.ticks)∧w'.cell? ⟨w.heap.size,2,none⟩=some (.int .i64 l.start.x)∧w'.cell? ⟨w.heap.size,3,none⟩=some (.int .i64 l.start.y)∧w'.cell? ⟨w.heap.size,4,none⟩=some (.slice A l.walls.length c)∧w'.cell? ⟨w.heap.size,5,none⟩=some (.slice A' l.gates.length c')∧w'.cell? ⟨w.heap.size,6,none⟩=some (.int .i64 l.fin.lo.x)∧w'.cell? ⟨w.heap.size,7,none⟩=some (.int .i64 l.fin.lo.y)∧w'.cell? ⟨w.heap.size,8,none⟩=some (.int .i64 l.fin.hi.x)∧w'.cell? ⟨w.heap.size,9,none⟩=some (.int .i64 l.fin.hi.y)∧w'.cell? ⟨w.heap.size,10,none⟩=some (.int .i64 l.bans))∧(w'.cell? ⟨w.heap.size+1,0,none⟩=some (.int .i64 r.lv)∧w'.cell? ⟨w.heap.size+1,1,none⟩=some (.int .i64 r.pl)∧w'.cell? ⟨w.heap.size+1,2,none⟩=some (.int .i64 r.sc)∧w'.cell? ⟨w.heap.size+1,3,none⟩=some (.slice A2 r.ins.length c2)∧w'.cell? ⟨w.heap.size+1,4,none⟩=some (.slice A3 r.hs.length c3)∧w'.cell? ⟨w.heap.size+1,5,none⟩=some (.int .i64 r.tag)))
  (first|(refine⟨ZX L5 ?_,Zt P5 ?_⟩<;>((with_reducible repeat first|assumption|apply bl0|apply blA|apply blD|apply blN|refine blF ?_ ‹_›|(apply blS;(simp<;>omega)));done)))
  ((first
    |(go_at_call 13;refine(XF l r.ins A A' A2 c c' c2 _ (h.below (Qa d5 (by(with_reducible repeat first|assumption|apply bl0|apply blA|apply blD|apply blN|refine blF ?_ ‹_›|(apply blS;(simp<;>omega)))))) (hg.below (Qa d5 (by(with_reducible repeat first|assumption|apply bl0|apply blA|apply blD|apply blN|refine blF ?_ ‹_›|(apply blS;(simp<;>omega)))))) e e' hn1 hn2 (hs.below (Qa d5 (by(with_reducible repeat first|assumption|apply bl0|apply blA|apply blD|apply blN|refine blF ?_ ‹_›|(apply blS;(simp<;>omega)))))) hn3).mono ?_;rw[HHH.out];rintro e1 w6 ⟨A5,c5,rfl,hc5,hO6,hb6⟩;have Q6:Bk w6 w5.heap.size 86 #[.int .i64 tr.t,.int .i64 tr.p.x,.int .i64 tr.p.y,.int .i64 tr.f.x,.int .i64 tr.f.y,.int .i64 tr.d,.int .i64 tr.g,.bool tr.dn,.bool false]:=Bk.later (by(repeat first|(with_reducible first|assumption|exact kN _ _ _ (by first|assumption|simp<;>omega)|refine kA ?_ _|refine kD ?_|refine kW ?_ _|apply Bk.set'|refine kF ?_ (by simp<;>omega) _)|exact⟨by with_reducible rfl⟩|exact⟨by simp⟩)) hb6)
    |(go_at_call 79;refine(Js A5 A3 H.length r.hs.length c5 c3 H r.hs _ ((hO6.sl' Qi).below (by(with_reducible repeat first|assumption|apply bl0|apply blA|apply blD|apply blN|refine blF ?_ ‹_›|(apply blS;(simp<;>omega))))) (hs'.below (Qa d5 (by(with_reducible repeat first|assumption|apply bl0|apply blA|apply blD|apply blN|refine blF ?_ ‹_›|(apply blS;(simp<;>omega)))))) (by omega) (by omega)).mono ?_;rw[HFD.out];rintro e1 w7 ⟨rfl,hb7⟩;have Q7:=Q6.later hb7)))
 have b7:Below w5.heap.size w5 w7:=by(with_reducible repeat first|assumption|apply bl0|apply blA|apply blD|apply blN|refine blF ?_ ‹_›|(apply blS;(simp<;>omega)))
 clear hb6 hb7 hO6 Q6
 have hb7:=b7
 clear b7
 have d7:Below w.heap.size w w7:=Qa (by(with_reducible repeat first|assumption|apply bl0|apply blA|apply blD|apply blN|refine blF ?_ ‹_›|(apply blS;(simp<;>omega)))) hb7
 obtain⟨L7,P7⟩:Bk w7 w.heap.size 29 #[.int .i64 l.id,.int .i64 l.ticks,.int .i64 l.start.x,.int .i64 l.start.y,.slice A l.walls.length c,.slice A' l.gates.length c',.int .i64 l.fin.lo.x,.int .i64 l.fin.lo.y,.int .i64 l.fin.hi.x,.int .i64 l.fin.hi.y,.int .i64 l.bans]∧Bk w7 (w.heap.size+1) 33 #[.int .i64 r.lv,.int .i64 r.pl,.int .i64 r.sc,.slice A2 r.ins.length c2,.slice A3 r.hs.length c3,.int .i64 r.tag]:=by refine⟨Bk.later ?_ hb7,Bk.later ?_ hb7⟩<;>(repeat first|(with_reducible first|assumption|exact kN _ _ _ (by first|assumption|simp<;>omega)|refine kA ?_ _|refine kD ?_|refine kW ?_ _|apply Bk.set'|refine kF ?_ (by simp<;>omega) _)|exact⟨by with_reducible rfl⟩|exact⟨by simp⟩)
 have y7:=d7.size
 have zP7:=P7.lt
 clear hb7 L5 P5 d5 zP5 y5 l0 l1 l2 l3 l4 l5 l6 l7 l8 l9 l10 lf p0 p1 p2 p3 p4 p5 pf
 obtain⟨⟨l0,l1,l2,l3,l4,l5,l6,l7,l8,l9,l10⟩,lf⟩:=L7.c11
 obtain⟨⟨p0,p1,p2,p3,p4,p5⟩,pf⟩:=P7.c6
 have zQ:=Q7.lt
 obtain⟨⟨q0,q1,q2,q3,q4,q5,q6,q7,q8⟩,qf⟩:=Q7.c9
 by_cases hd0:0≤d
 ·obtain rfl:vd=7:=by rw[HVC.out];rw[if_pos hd0]
  have gk:=(SZ.out.below (d7)).c 6 (by omega)
  have gz:6<w7.heap.size:=Nat.lt_of_lt_of_le (by omega) (SZ.out.below (d7)).z
  go_wp2
  go_ret
  exact⟨rfl,by(with_reducible repeat first|assumption|apply bl0|apply blA|apply blD|apply blN|refine blF ?_ ‹_›|(apply blS;(simp<;>omega)))⟩
 have HVC:=Lib.hid (HVC.out.trans (if_neg hd0))
 cases hdn:tr.dn
 ·obtain rfl:vd=8:=by rw[HVC.out];rw[hdn];rfl
  rw[hdn] at q7
  have gk:=(SZ.out.below (d7)).c 7 (by omega)
  have gz:7<w7.heap.size:=Nat.lt_of_lt_of_le (by omega) (SZ.out.below (d7)).z
  go_wp2
  go_ret
  exact⟨rfl,by(with_reducible repeat first|assumption|apply bl0|apply blA|apply blD|apply blN|refine blF ?_ ‹_›|(apply blS;(simp<;>omega)))⟩
 rw[hdn] at q7
 by_cases htt:tr.t<(r.ins.length:Int)
 ·obtain rfl:vd=8:=by rw[HVC.out];rw[hdn,decide_eq_false (by omega)];rfl
  have gk:=(SZ.out.below (d7)).c 7 (by omega)
  have gz:7<w7.heap.size:=Nat.lt_of_lt_of_le (by omega) (SZ.out.below (d7)).z
  go_wp2
  go_ret
  exact⟨rfl,by(with_reducible repeat first|assumption|apply bl0|apply blA|apply blD|apply blN|refine blF ?_ ‹_›|(apply blS;(simp<;>omega)))⟩
 have HVC:=Lib.hid (HVC.out.trans (if_neg (by rw[hdn,decide_eq_true (show tr.t=(r.ins.length:Int) by omega)];simp)))
 by_cases hsc:tr.t=r.sc
 ·obtain rfl:vd=0:=by rw[HVC.out];rw[if_neg (by simpa using hsc)]
  have hsb:(tr.t == r.sc)=true:=by rw[beq_iff_eq];exact hsc
  have HSC:=Lib.hid hsc
  clear hsc
  go_wp2
  go_ret
  exact⟨rfl,by(with_reducible repeat first|assumption|apply bl0|apply blA|apply blD|apply blN|refine blF ?_ ‹_›|(apply blS;(simp<;>omega)))⟩
 ·obtain rfl:vd=9:=by rw[HVC.out];rw[if_pos hsc]
  have hsb:(tr.t == r.sc)=false:=by rw[beq_eq_false_iff_ne];exact hsc
  have gk:=(SZ.out.below (d7)).c 8 (by omega)
  have gz:8<w7.heap.size:=Nat.lt_of_lt_of_le (by omega) (SZ.out.below (d7)).z
  go_wp2
  go_ret
  exact⟨rfl,by(with_reducible repeat first|assumption|apply bl0|apply blA|apply blD|apply blN|refine blF ?_ ‹_›|(apply blS;(simp<;>omega)))⟩
end Go.Proofs.YtpmjcjoeckajgaaGreatDoor
