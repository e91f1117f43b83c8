/- The law FnFineMore: its walk. What follows the finish is not accepted. Printed by gen/lawsW.py. (Round C, cards) -/
import Derived.Test.YtpmjcjoeckajgaaGreatDoorDrV
import Derived.Test.YtpmjcjoeckajgaaGreatDoorVerE
import Derived.Test.YtpmjcjoeckajgaaGreatDoorVerP
import Derived.Test.YtpmjcjoeckajgaaGreatDoorVerD
import Derived.Test.YtpmjcjoeckajgaaGreatDoorRunR
import Derived.Test.YtpmjcjoeckajgaaGreatDoorImpU
import Derived.Deep.RegionHeld3
namespace Go.Proofs.YtpmjcjoeckajgaaGreatDoor
open Go.ChangeShapes Go.WideShapes Go.ChangeAt Go.RowKit
theorem Qyc(r:Rep):(∀x∈repL r,0≤x∧x≤1000002)∧(repL r).length≤200:=by
 unfold repL
 cases h:QL r
 ·exact⟨fun x hx=>by simp at hx,by simp⟩
 ·rw[if_pos rfl]
  obtain⟨h1,h2, -⟩:=Qkh h
  exact⟨fun x hx=>by have:=QbH h x hx;omega,by rw[QaQ];omega⟩
set_option maxRecDepth 100000 in
set_option maxHeartbeats 8000000 in
theorem QqY(az:Nat→Addr)(A:Option Addr)(n c:Nat)(l:List Int)(w:World)(h:Sl w 1 QD A n l)(hl: ∀x∈l,0≤x∧x<256)(hn:n≤9223372036854775807)(hnc:n≤c)(hc:c≤9223372036854775807)(sz:Jj az w):
 Calls Sq.prog 4 #[.slice A n c] w fun e w'=>e= .returned (.bool true)∧Below w.heap.size w w':=by
 have SZ:=Lib.hid sz
 clear sz
 by_cases h1:1048576<(n:Int)
 ·go_enter Sq.func4, Tryz.ntmps4
  go_wp2
  go_ret
  exact⟨rfl,Below.refl _ _⟩
 go_enter Sq.func4, Tryz.ntmps4
 go_wp2_with fail
 refine(QfN A n c l _ h hl hn hnc hc).mono ?_
 rintro e w1 ⟨lv,B,B',k,k',key,r,A2,c2,A3,c3,rfl,hD,⟨hk0,hk1⟩, -,d1⟩
 clear h hl
 have nw:=hD.nw
 have ng:=hD.ng
 have ni:=hD.P.nin
 have nh:=hD.P.nhs
 have y1:=d1.size
 obtain⟨vd,hvd⟩: ∃vd,QM lv key r=vd:=⟨_,rfl⟩
 have HVD:=Lib.hid hvd
 clear hvd
 obtain⟨L,hL⟩: ∃L,w1.heap.size=L:=⟨_,rfl⟩
 go_wp2_with fail
 refine(QaN az lv key r B B' A2 A3 k k' c2 c3 _ (hD.W.below ?b) (hD.G.below ?b) hD.e hD.e' (by(try dsimp only);omega) (by(try dsimp only);omega) (hD.I.below ?b) (hD.H.below ?b) hD.e3 (by omega) (by omega) (SZ.out.below (by(with_reducible repeat first|assumption|apply bl0|apply blA|apply blD|apply blN|refine blF ?_ ‹_›|(apply blS;(simp<;>omega)))))).mono ?_
 case b=>(with_reducible repeat first|assumption|apply bl0|apply blA|apply blD|apply blN|refine blF ?_ ‹_›|(apply blS;(simp<;>omega)))
 rw[HVD.out]
 rintro e w2 ⟨rfl,hb2⟩
 have FD2:Qx lv B B' k k' r A2 A3 c2 c3 w2:=Qx.below (by(repeat(first|(with_reducible assumption)|(with_reducible refine Qx.alloc ?_ _)|(with_reducible refine Qx.drew ?_)))) hb2
 obtain⟨FL2,FM2⟩:Bk w2 L 29 #[.int .i64 lv.id,.int .i64 lv.ticks,.int .i64 lv.start.x,.int .i64 lv.start.y,.slice B lv.walls.length k,.slice B' lv.gates.length k',.int .i64 lv.fin.lo.x,.int .i64 lv.fin.lo.y,.int .i64 lv.fin.hi.x,.int .i64 lv.fin.hi.y,.int .i64 lv.bans]∧Bk w2 (L+1) 33 #[.int .i64 r.lv,.int .i64 r.pl,.int .i64 r.sc,.slice A2 r.ins.length c2,.slice A3 r.hs.length c3,.int .i64 r.tag]:=by refine⟨Bk.later ?_ hb2,Bk.later ?_ hb2⟩<;>(repeat first|(with_reducible first|assumption|exact kN _ _ _ (by first|assumption|simp<;>omega)|refine kA ?_ _|refine kD ?_|refine kW ?_ _|apply Bk.set'|refine kF ?_ (by simp<;>omega) _)|exact⟨by with_reducible rfl⟩|exact⟨by simp⟩)
 have d2:Below w.heap.size w w2:=Qa (by(with_reducible repeat first|assumption|apply bl0|apply blA|apply blD|apply blN|refine blF ?_ ‹_›|(apply blS;(simp<;>omega)))) hb2
 have y2:=d2.size
 have zL2:=FL2.lt
 have zM2:=FM2.lt
 clear hb2 hD d1 y1
 obtain⟨⟨cL0,cL1,cL2,cL3,cL4,cL5,cL6,cL7,cL8,cL9,cL10⟩,cLf⟩:=FL2.c11
 obtain⟨⟨cM0,cM1,cM2,cM3,cM4,cM5⟩,cMf⟩:=FM2.c6
 go_wp2_with fail
 refine(Qe8 lv key r B B' A2 A3 k k' c2 c3 _ (FD2.W.below ?b) (FD2.G.below ?b) (by omega) (by omega) (FD2.I.below ?b) (FD2.H.below ?b) FD2.e3 (by omega) (by omega)).mono ?_
 case b=>(with_reducible repeat first|assumption|apply bl0|apply blA|apply blD|apply blN|refine blF ?_ ‹_›|(apply blS;(simp<;>omega)))
 rw[HVD.out]
 rintro e w3 ⟨rfl,hb3⟩
 have FD3:Qx lv B B' k k' r A2 A3 c2 c3 w3:=Qx.below (by(repeat(first|(with_reducible assumption)|(with_reducible refine Qx.alloc ?_ _)|(with_reducible refine Qx.drew ?_)))) hb3
 obtain⟨FL3,FM3⟩:Bk w3 L 29 #[.int .i64 lv.id,.int .i64 lv.ticks,.int .i64 lv.start.x,.int .i64 lv.start.y,.slice B lv.walls.length k,.slice B' lv.gates.length k',.int .i64 lv.fin.lo.x,.int .i64 lv.fin.lo.y,.int .i64 lv.fin.hi.x,.int .i64 lv.fin.hi.y,.int .i64 lv.bans]∧Bk w3 (L+1) 33 #[.int .i64 r.lv,.int .i64 r.pl,.int .i64 r.sc,.slice A2 r.ins.length c2,.slice A3 r.hs.length c3,.int .i64 r.tag]:=by refine⟨Bk.later ?_ hb3,Bk.later ?_ hb3⟩<;>(repeat first|(with_reducible first|assumption|exact kN _ _ _ (by first|assumption|simp<;>omega)|refine kA ?_ _|refine kD ?_|refine kW ?_ _|apply Bk.set'|refine kF ?_ (by simp<;>omega) _)|exact⟨by with_reducible rfl⟩|exact⟨by simp⟩)
 have d3:Below w.heap.size w w3:=Qa (by(with_reducible repeat first|assumption|apply bl0|apply blA|apply blD|apply blN|refine blF ?_ ‹_›|(apply blS;(simp<;>omega)))) hb3
 have y3:=d3.size
 have zL3:=FL3.lt
 have zM3:=FM3.lt
 clear hb3 FD2 FL2 FM2 d2 y2 zL2 zM2 cL0 cL1 cL2 cL3 cL4 cL5 cL6 cL7 cL8 cL9 cL10 cLf cM0 cM1 cM2 cM3 cM4 cM5 cMf
 obtain⟨⟨cL0,cL1,cL2,cL3,cL4,cL5,cL6,cL7,cL8,cL9,cL10⟩,cLf⟩:=FL3.c11
 obtain⟨⟨cM0,cM1,cM2,cM3,cM4,cM5⟩,cMf⟩:=FM3.c6
 by_cases hv0:vd=0
 rotate_left
 ·skip
  go_wp2
  go_ret
  exact⟨rfl,by(with_reducible repeat first|assumption|apply bl0|apply blA|apply blD|apply blN|refine blF ?_ ‹_›|(apply blS;(simp<;>omega)))⟩
 subst hv0
 have HFI:=Lib.hid (Qby HVD.out)
 obtain⟨i0,hi,hz0,hz1,hz2⟩:=info_parts Sq.infoInput
 obtain⟨xs,hxs⟩: ∃xs,r.ins++ [(⟨0,0,false⟩:Inp)]=xs:=⟨_,rfl⟩
 have HXS:=Lib.hid hxs
 have hxl:xs.length≤100:=by rw[←hxs,List.length_append];simp;omega
 clear hxs
 have hmr:=fun h=>Qpp HVD.out (X:=xs) HXS.out.symm h
 obtain⟨hs,hhs⟩: ∃hs,Qq lv xs=hs:=⟨_,rfl⟩
 have hsl:hs.length≤61:=by rw[←hhs];exact Qc0 lv xs
 obtain⟨ls,hls⟩: ∃ls,repL ⟨r.lv,r.pl,r.sc,xs,hs,r.tag⟩=ls:=⟨_,rfl⟩
 obtain⟨hbd,hll⟩:=Qyc ⟨r.lv,r.pl,r.sc,xs,hs,r.tag⟩
 obtain⟨tg,htg⟩: ∃tg,tagL key ls=tg:=⟨_,rfl⟩
 have HMR:=Lib.hid (show QC lv xs<0→QM lv key ⟨r.lv,r.pl,r.sc,xs,hs,tg⟩=8 from fun h=>by
  obtain⟨k1,k2⟩:=hmr h
  rw[hhs] at k1 k2
  rw[←htg,←hls,show repL ⟨r.lv,r.pl,r.sc,xs,hs,r.tag⟩=QK ⟨r.lv,r.pl,r.sc,xs,hs,r.tag⟩ by unfold repL;rw[k1,if_pos rfl]]
  exact k2)
 rw[hls] at hbd hll
 have HBD:=Lib.hid hbd
 have HHS:=Lib.hid hhs
 have HLS:=Lib.hid hls
 have HTG:=Lib.hid htg
 clear hmr hhs hls htg hbd
 have hkk:inR 1 9999 key=true:=HFI.out.2.2.2.1
 have HLO:=Lib.hid HFI.out.2.1
 have GD:=Lib.hid FD3
 go_wp2_with (first
  |(at_builtin;refine Xp rfl _ _ 30 rfl (w3.heap.size+1) 39 i0 (.agg #[.int .i64 0,.int .i64 0,.bool false]) 3 24 (Sq.und Tryz.underlying30) hi hz0 hz1 hz2 rfl (by decide) Qh Xv _ [] r.ins rfl (QjX _ _ _ _ (by simp) (by simp)) A2 r.ins.length c2 rfl (FD3.I.below (by(with_reducible repeat first|assumption|apply bl0|apply blA|apply blD|apply blN|refine blF ?_ ‹_›|(apply blS;(simp<;>omega))))) FD3.e2 (by unfold maxLen;simp<;>omega) (by simp<;>omega) (by simp<;>omega) ?_;intro v4 w4 ho4 hg4;rw[List.nil_append] at ho4;have y4:=hg4.size)
  |(at_builtin;refine Xp rfl _ _ 30 rfl (w3.heap.size+1) 39 i0 (.agg #[.int .i64 0,.int .i64 0,.bool false]) 3 24 (Sq.und Tryz.underlying30) hi hz0 hz1 hz2 rfl (by decide) Qh Xv _ r.ins [(⟨0,0,false⟩:Inp)] rfl (ho4.alloc _) _ 1 1 rfl (Sl.oneAt _ (⟨0,0,false⟩:Inp) _ _ (by rfl) (by simp)) (by intro e;cases e) (by unfold maxLen;omega) (by omega) (by simp at y4;simp<;>omega) ?_;intro v5 w5 ho5 hg5;rw[HXS.out] at ho5;have hlt4:=Lib.hid ho4.lt;have hb4:Below w3.heap.size w3 w4:=(Qf (Qf (Below.refl _ _) _) _).grown hg4 (by simp<;>omega) (fun k e=>Nat.le_of_succ_le (Qgs (Nat.le_refl _) e));have b35:Below w3.heap.size w3 w5:=(Qf hb4 _).grown hg5 (by have:=hb4.size;simp<;>omega) (fun k e=>Nat.le_of_succ_le (hlt4.out k e).1);have FX5:Bk w5 w3.heap.size 33 #[.int .i64 r.lv,.int .i64 r.pl,.int .i64 r.sc,.slice A2 r.ins.length c2,.slice A3 r.hs.length c3,.int .i64 r.tag]:=Bk.grown (Bk.alloc (Bk.grown (Bk.alloc (kN w3 _ _ rfl) _) hg4 (fun e=>absurd (Qgs (Nat.le_refl _) e.symm) (by omega))) _) hg5 (fun e=>absurd (hlt4.out _ e.symm).1 (by omega));obtain⟨A5,c5,rfl,hc5,_⟩:=ho5.form;have FL5:=FL3.later b35;have FM5:=FM3.later b35;have d5:Below w.heap.size w w5:=Qa d3 b35;have y5:=d5.size;have zL5:=FL5.lt;have zM5:=FM5.lt;have zX5:=FX5.lt;have pX:=FX5.lt;clear hg4 hg5 hb4 ho4 y4 hlt4 FL3 FM3 FD3 cL0 cL1 cL2 cL3 cL4 cL5 cL6 cL7 cL8 cL9 cL10 cLf cM0 cM1 cM2 cM3 cM4 cM5 cMf;obtain⟨⟨cL0,cL1,cL2,cL3,cL4,cL5,cL6,cL7,cL8,cL9,cL10⟩,cLf⟩:=FL5.c11;obtain⟨⟨cM0,cM1,cM2,cM3,cM4,cM5⟩,cMf⟩:=FM5.c6;obtain⟨⟨cX0,cX1,cX2,cX3,cX4,cX5⟩,cXf⟩:=FX5.c6))
 go_wp2_with fail
 refine(XF lv xs B B' A5 k k' c5 _ (GD.out.W.below ?b) (GD.out.G.below ?b) GD.out.e GD.out.e' (by omega) (by omega) ((show Own _ (w3.heap.size+1) 39 3 Qd (.slice A5 xs.length c5) xs from by(with_reducible repeat first|assumption|refine Own.alloc ?_ _|refine Own.drew ?_|refine Own.set (by first|omega|simp<;>omega) ?_ _)).sl' Qh) (by omega)).mono ?_
 case b=>(with_reducible repeat first|assumption|apply bl0|apply blA|apply blD|apply blN|refine blF ?_ ‹_›|(apply blS;(simp<;>omega)))
 rw[HHS.out]
 rintro e w6 ⟨A6,c6,rfl,hc6,hO6,hb6⟩
 obtain⟨FL6,FM6,FX6⟩:Bk w6 L 29 #[.int .i64 lv.id,.int .i64 lv.ticks,.int .i64 lv.start.x,.int .i64 lv.start.y,.slice B lv.walls.length k,.slice B' lv.gates.length k',.int .i64 lv.fin.lo.x,.int .i64 lv.fin.lo.y,.int .i64 lv.fin.hi.x,.int .i64 lv.fin.hi.y,.int .i64 lv.bans]∧Bk w6 (L+1) 33 #[.int .i64 r.lv,.int .i64 r.pl,.int .i64 r.sc,.slice A2 r.ins.length c2,.slice A3 r.hs.length c3,.int .i64 r.tag]∧Bk w6 w3.heap.size 33 #[.int .i64 r.lv,.int .i64 r.pl,.int .i64 r.sc,.slice A5 xs.length c5,.slice A3 r.hs.length c3,.int .i64 r.tag]:=by refine⟨Bk.later ?_ hb6,Bk.later ?_ hb6,Bk.later ?_ hb6⟩<;>(repeat first|(with_reducible first|assumption|exact kN _ _ _ (by first|assumption|simp<;>omega)|refine kA ?_ _|refine kD ?_|refine kW ?_ _|apply Bk.set'|refine kF ?_ (by simp<;>omega) _)|exact⟨by with_reducible rfl⟩|exact⟨by simp⟩)
 have FI6:Own w6 (w3.heap.size+1) 39 3 Qd (.slice A5 xs.length c5) xs:=Own.later (by(with_reducible repeat first|assumption|refine Own.alloc ?_ _|refine Own.drew ?_|refine Own.set (by first|omega|simp<;>omega) ?_ _)) hb6
 have d6:Below w.heap.size w w6:=Qa (by(with_reducible repeat first|assumption|apply bl0|apply blA|apply blD|apply blN|refine blF ?_ ‹_›|(apply blS;(simp<;>omega)))) hb6
 have y6:=d6.size
 have zL6:=FL6.lt
 have zM6:=FM6.lt
 have zX6:=FX6.lt
 have FH6:Own w6 w5.heap.size 3 1 Qe (.slice A6 hs.length c6) hs:=hO6.mono (by simp)
 have b36:Below w3.heap.size w3 w6:=Qa (by(with_reducible repeat first|assumption|apply bl0|apply blA|apply blD|apply blN|refine blF ?_ ‹_›|(apply blS;(simp<;>omega)))) hb6
 clear hO6
 clear hb6 FL5 FM5 FX5 ho5 d5 y5 zL5 zM5 zX5 cL0 cL1 cL2 cL3 cL4 cL5 cL6 cL7 cL8 cL9 cL10 cLf cM0 cM1 cM2 cM3 cM4 cM5 cMf cX0 cX1 cX2 cX3 cX4 cX5 cXf
 obtain⟨⟨cL0,cL1,cL2,cL3,cL4,cL5,cL6,cL7,cL8,cL9,cL10⟩,cLf⟩:=FL6.c11
 obtain⟨⟨cM0,cM1,cM2,cM3,cM4,cM5⟩,cMf⟩:=FM6.c6
 obtain⟨⟨cX0,cX1,cX2,cX3,cX4,cX5⟩,cXf⟩:=FX6.c6
 have FHn:=FH6.none_cap
 go_wp2_with fail
 refine(JZ A5 A6 c5 c6 ⟨r.lv,r.pl,r.sc,xs,hs,r.tag⟩ _ ((show Own _ (w3.heap.size+1) 39 3 Qd (.slice A5 xs.length c5) xs from by(with_reducible repeat first|assumption|refine Own.alloc ?_ _|refine Own.drew ?_|refine Own.set (by first|omega|simp<;>omega) ?_ _)).sl' Qh) ((show Own _ w5.heap.size 3 1 Qe (.slice A6 hs.length c6) hs from by(with_reducible repeat first|assumption|refine Own.alloc ?_ _|refine Own.drew ?_|refine Own.set (by first|omega|simp<;>omega) ?_ _)).sl' Qi) (by(try dsimp only);omega) (by(try dsimp only);omega) FHn).mono ?_
 rw[HLS.out]
 rintro e w7 ⟨AL,cL,rfl,hcL,hOL,hb7⟩
 obtain⟨FL7,FM7,FX7⟩:Bk w7 L 29 #[.int .i64 lv.id,.int .i64 lv.ticks,.int .i64 lv.start.x,.int .i64 lv.start.y,.slice B lv.walls.length k,.slice B' lv.gates.length k',.int .i64 lv.fin.lo.x,.int .i64 lv.fin.lo.y,.int .i64 lv.fin.hi.x,.int .i64 lv.fin.hi.y,.int .i64 lv.bans]∧Bk w7 (L+1) 33 #[.int .i64 r.lv,.int .i64 r.pl,.int .i64 r.sc,.slice A2 r.ins.length c2,.slice A3 r.hs.length c3,.int .i64 r.tag]∧Bk w7 w3.heap.size 33 #[.int .i64 r.lv,.int .i64 r.pl,.int .i64 r.sc,.slice A5 xs.length c5,.slice A6 hs.length c6,.int .i64 r.tag]:=by refine⟨Bk.later ?_ hb7,Bk.later ?_ hb7,Bk.later ?_ hb7⟩<;>(repeat first|(with_reducible first|assumption|exact kN _ _ _ (by first|assumption|simp<;>omega)|refine kA ?_ _|refine kD ?_|refine kW ?_ _|apply Bk.set'|refine kF ?_ (by simp<;>omega) _)|exact⟨by with_reducible rfl⟩|exact⟨by simp⟩)
 obtain⟨FI7,FH7⟩:Own w7 (w3.heap.size+1) 39 3 Qd (.slice A5 xs.length c5) xs∧Own w7 w5.heap.size 3 1 Qe (.slice A6 hs.length c6) hs:=by refine⟨Own.later ?_ hb7,Own.later ?_ hb7⟩<;>(with_reducible repeat first|assumption|refine Own.alloc ?_ _|refine Own.drew ?_|refine Own.set (by first|omega|simp<;>omega) ?_ _)
 have d7:Below w.heap.size w w7:=Qa (by(with_reducible repeat first|assumption|apply bl0|apply blA|apply blD|apply blN|refine blF ?_ ‹_›|(apply blS;(simp<;>omega)))) hb7
 have y7:=d7.size
 have zL7:=FL7.lt
 have zM7:=FM7.lt
 have zX7:=FX7.lt
 have FT7:Own w7 w6.heap.size 3 1 Qe (.slice AL ls.length cL) ls:=hOL.mono (by simp)
 have b37:Below w3.heap.size w3 w7:=Qa (by(with_reducible repeat first|assumption|apply bl0|apply blA|apply blD|apply blN|refine blF ?_ ‹_›|(apply blS;(simp<;>omega)))) hb7
 clear hOL
 clear hb7 FL6 FM6 FX6 FI6 FH6 d6 y6 zL6 zM6 zX6 cL0 cL1 cL2 cL3 cL4 cL5 cL6 cL7 cL8 cL9 cL10 cLf cM0 cM1 cM2 cM3 cM4 cM5 cMf cX0 cX1 cX2 cX3 cX4 cX5 cXf
 obtain⟨⟨cL0,cL1,cL2,cL3,cL4,cL5,cL6,cL7,cL8,cL9,cL10⟩,cLf⟩:=FL7.c11
 obtain⟨⟨cM0,cM1,cM2,cM3,cM4,cM5⟩,cMf⟩:=FM7.c6
 obtain⟨⟨cX0,cX1,cX2,cX3,cX4,cX5⟩,cXf⟩:=FX7.c6
 go_wp2_with fail
 refine(Qcb key AL _ cL ls _ ((FT7.sl' Qi).below (by(with_reducible repeat first|assumption|apply bl0|apply blA|apply blD|apply blN|refine blF ?_ ‹_›|(apply blS;(simp<;>omega))))) (by omega) hll (fun a e=>Nat.lt_of_lt_of_le (FT7.alt a e) (by first|exact Nat.le_refl _|(simp;done))) hkk HBD.out).mono ?_
 rw[HTG.out]
 rintro e w8 ⟨rfl,hb8⟩
 obtain⟨FL8,FM8,FX8⟩:Bk w8 L 29 #[.int .i64 lv.id,.int .i64 lv.ticks,.int .i64 lv.start.x,.int .i64 lv.start.y,.slice B lv.walls.length k,.slice B' lv.gates.length k',.int .i64 lv.fin.lo.x,.int .i64 lv.fin.lo.y,.int .i64 lv.fin.hi.x,.int .i64 lv.fin.hi.y,.int .i64 lv.bans]∧Bk w8 (L+1) 33 #[.int .i64 r.lv,.int .i64 r.pl,.int .i64 r.sc,.slice A2 r.ins.length c2,.slice A3 r.hs.length c3,.int .i64 r.tag]∧Bk w8 w3.heap.size 33 #[.int .i64 r.lv,.int .i64 r.pl,.int .i64 r.sc,.slice A5 xs.length c5,.slice A6 hs.length c6,.int .i64 r.tag]:=by refine⟨Bk.later ?_ hb8,Bk.later ?_ hb8,Bk.later ?_ hb8⟩<;>(repeat first|(with_reducible first|assumption|exact kN _ _ _ (by first|assumption|simp<;>omega)|refine kA ?_ _|refine kD ?_|refine kW ?_ _|apply Bk.set'|refine kF ?_ (by simp<;>omega) _)|exact⟨by with_reducible rfl⟩|exact⟨by simp⟩)
 obtain⟨FI8,FH8⟩:Own w8 (w3.heap.size+1) 39 3 Qd (.slice A5 xs.length c5) xs∧Own w8 w5.heap.size 3 1 Qe (.slice A6 hs.length c6) hs:=by refine⟨Own.later ?_ hb8,Own.later ?_ hb8⟩<;>(with_reducible repeat first|assumption|refine Own.alloc ?_ _|refine Own.drew ?_|refine Own.set (by first|omega|simp<;>omega) ?_ _)
 have d8:Below w.heap.size w w8:=Qa (by(with_reducible repeat first|assumption|apply bl0|apply blA|apply blD|apply blN|refine blF ?_ ‹_›|(apply blS;(simp<;>omega)))) hb8
 have y8:=d8.size
 have zL8:=FL8.lt
 have zM8:=FM8.lt
 have zX8:=FX8.lt
 have b38:Below w3.heap.size w3 w8:=Qa (by(with_reducible repeat first|assumption|apply bl0|apply blA|apply blD|apply blN|refine blF ?_ ‹_›|(apply blS;(simp<;>omega)))) hb8
 clear hb8 FL7 FM7 FX7 FI7 FH7 FT7 d7 y7 zL7 zM7 zX7 cL0 cL1 cL2 cL3 cL4 cL5 cL6 cL7 cL8 cL9 cL10 cLf cM0 cM1 cM2 cM3 cM4 cM5 cMf cX0 cX1 cX2 cX3 cX4 cX5 cXf
 obtain⟨⟨cL0,cL1,cL2,cL3,cL4,cL5,cL6,cL7,cL8,cL9,cL10⟩,cLf⟩:=FL8.c11
 obtain⟨⟨cM0,cM1,cM2,cM3,cM4,cM5⟩,cMf⟩:=FM8.c6
 obtain⟨⟨cX0,cX1,cX2,cX3,cX4,cX5⟩,cXf⟩:=FX8.c6
 obtain⟨lx,hlx⟩: ∃lx,QC lv xs=lx:=⟨_,rfl⟩
 have HLX:=Lib.hid hlx
 clear hlx
 go_wp2_with fail
 refine(JQ lv xs B B' A5 k k' c5 _ (GD.out.W.below ?b) (GD.out.G.below ?b) GD.out.e GD.out.e' (by omega) (by omega) HLO.out ((show Own _ (w3.heap.size+1) 39 3 Qd (.slice A5 xs.length c5) xs from by(with_reducible repeat first|assumption|refine Own.alloc ?_ _|refine Own.drew ?_|refine Own.set (by first|omega|simp<;>omega) ?_ _)).sl' Qh) (by omega)).mono ?_
 case b=>(with_reducible repeat first|assumption|apply bl0|apply blA|apply blD|apply blN|refine blF ?_ ‹_›|(apply blS;(simp<;>omega)))
 rw[HLX.out]
 rintro e w9 ⟨rfl,hb9⟩
 obtain⟨FL9,FM9,FX9⟩:Bk w9 L 29 #[.int .i64 lv.id,.int .i64 lv.ticks,.int .i64 lv.start.x,.int .i64 lv.start.y,.slice B lv.walls.length k,.slice B' lv.gates.length k',.int .i64 lv.fin.lo.x,.int .i64 lv.fin.lo.y,.int .i64 lv.fin.hi.x,.int .i64 lv.fin.hi.y,.int .i64 lv.bans]∧Bk w9 (L+1) 33 #[.int .i64 r.lv,.int .i64 r.pl,.int .i64 r.sc,.slice A2 r.ins.length c2,.slice A3 r.hs.length c3,.int .i64 r.tag]∧Bk w9 w3.heap.size 33 #[.int .i64 r.lv,.int .i64 r.pl,.int .i64 r.sc,.slice A5 xs.length c5,.slice A6 hs.length c6,.int .i64 tg]:=by refine⟨Bk.later ?_ hb9,Bk.later ?_ hb9,Bk.later ?_ hb9⟩<;>(repeat first|(with_reducible first|assumption|exact kN _ _ _ (by first|assumption|simp<;>omega)|refine kA ?_ _|refine kD ?_|refine kW ?_ _|apply Bk.set'|refine kF ?_ (by simp<;>omega) _)|exact⟨by with_reducible rfl⟩|exact⟨by simp⟩)
 obtain⟨FI9,FH9⟩:Own w9 (w3.heap.size+1) 39 3 Qd (.slice A5 xs.length c5) xs∧Own w9 w5.heap.size 3 1 Qe (.slice A6 hs.length c6) hs:=by refine⟨Own.later ?_ hb9,Own.later ?_ hb9⟩<;>(with_reducible repeat first|assumption|refine Own.alloc ?_ _|refine Own.drew ?_|refine Own.set (by first|omega|simp<;>omega) ?_ _)
 have d9:Below w.heap.size w w9:=Qa (by(with_reducible repeat first|assumption|apply bl0|apply blA|apply blD|apply blN|refine blF ?_ ‹_›|(apply blS;(simp<;>omega)))) hb9
 have y9:=d9.size
 have zL9:=FL9.lt
 have zM9:=FM9.lt
 have zX9:=FX9.lt
 have b39:Below w3.heap.size w3 w9:=Qa (by(with_reducible repeat first|assumption|apply bl0|apply blA|apply blD|apply blN|refine blF ?_ ‹_›|(apply blS;(simp<;>omega)))) hb9
 clear hb9 FL8 FM8 FX8 FI8 FH8 d8 y8 zL8 zM8 zX8 cL0 cL1 cL2 cL3 cL4 cL5 cL6 cL7 cL8 cL9 cL10 cLf cM0 cM1 cM2 cM3 cM4 cM5 cMf cX0 cX1 cX2 cX3 cX4 cX5 cXf
 obtain⟨⟨cL0,cL1,cL2,cL3,cL4,cL5,cL6,cL7,cL8,cL9,cL10⟩,cLf⟩:=FL9.c11
 obtain⟨⟨cM0,cM1,cM2,cM3,cM4,cM5⟩,cMf⟩:=FM9.c6
 obtain⟨⟨cX0,cX1,cX2,cX3,cX4,cX5⟩,cXf⟩:=FX9.c6
 by_cases hge:0≤lx
 ·skip
  go_wp2
  go_ret
  exact⟨rfl,by(with_reducible repeat first|assumption|apply bl0|apply blA|apply blD|apply blN|refine blF ?_ ‹_›|(apply blS;(simp<;>omega)))⟩
 ·have hv8:=HMR.out (by rw[HLX.out];omega)
  have HV8:=Lib.hid hv8
  clear hv8
  go_wp2_with fail
  refine(QaN az lv key ⟨r.lv,r.pl,r.sc,xs,hs,tg⟩ B B' A5 A6 k k' c5 c6 _ (GD.out.W.below ?b) (GD.out.G.below ?b) GD.out.e GD.out.e' (by omega) (by omega) ((show Own _ (w3.heap.size+1) 39 3 Qd (.slice A5 xs.length c5) xs from by(with_reducible repeat first|assumption|refine Own.alloc ?_ _|refine Own.drew ?_|refine Own.set (by first|omega|simp<;>omega) ?_ _)).sl' Qh) ((show Own _ w5.heap.size 3 1 Qe (.slice A6 hs.length c6) hs from by(with_reducible repeat first|assumption|refine Own.alloc ?_ _|refine Own.drew ?_|refine Own.set (by first|omega|simp<;>omega) ?_ _)).sl' Qi) FHn (by(try dsimp only);omega) (by(try dsimp only);omega) (SZ.out.below (by(with_reducible repeat first|assumption|apply bl0|apply blA|apply blD|apply blN|refine blF ?_ ‹_›|(apply blS;(simp<;>omega)))))).mono ?_
  case b=>(with_reducible repeat first|assumption|apply bl0|apply blA|apply blD|apply blN|refine blF ?_ ‹_›|(apply blS;(simp<;>omega)))
  rw[HV8.out]
  rintro e w10 ⟨rfl,hb10⟩
  have d10:Below w.heap.size w w10:=Qa (by(with_reducible repeat first|assumption|apply bl0|apply blA|apply blD|apply blN|refine blF ?_ ‹_›|(apply blS;(simp<;>omega)))) hb10
  have y10:=d10.size
  clear hb10 FL9 FM9 FX9 FI9 FH9 d9 y9 zL9 zM9 zX9 cL0 cL1 cL2 cL3 cL4 cL5 cL6 cL7 cL8 cL9 cL10 cLf cM0 cM1 cM2 cM3 cM4 cM5 cMf cX0 cX1 cX2 cX3 cX4 cX5 cXf
  go_wp2
  go_ret
  exact⟨rfl,by(with_reducible repeat first|assumption|apply bl0|apply blA|apply blD|apply blN|refine blF ?_ ‹_›|(apply blS;(simp<;>omega)))⟩
end Go.Proofs.YtpmjcjoeckajgaaGreatDoor
