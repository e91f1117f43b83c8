/- Lemmas: SpecD SpecE. -/
import Derived.Test.YtgaimkihacljdaaGreatZSpec
/- The reference's tick: l13Drive, l13Step. Printed by gen/drive.py. -/
namespace Go.Proofs.YtgaimkihacljdaaGreat
open Go.ChangeShapes Go.WideShapes Go.ChangeAt Go.RowKit
set_option maxRecDepth 100000 in
set_option maxHeartbeats 1000000 in
theorem QqE(l:Lev)(s:St)(x:Inp)(A A':Option Addr)(c c':Nat)(w:World)(h:Sl w 4 Qc A l.walls.length l.walls)(hg:Sl w 4 Qc A' l.gates.length l.gates)(hn:(l.walls.length:Nat)≤9223372036854775807)
 (hw: ∀b∈l.walls,bdBx b)(hp:vOk s.p=true)(hf:fOk s.f)(hd0:0≤s.d)(hd1:s.d≤15)(hg0:0≤s.g)(hg1:s.g≤1000000)(hx: -1≤x.s∧x.s≤1)(hdn:s.dn=false)(hov:s.ov=false):
 Calls Sq.prog 73 #[.agg #[.int .i64 l.id,.int .i64 l.ticks,.int .i64 l.start.x,.int .i64 l.start.y,.slice A l.walls.length c,.slice A' l.gates.length c',.int .i64 l.fin.lo.x,.int .i64 l.fin.lo.y,.int .i64 l.fin.hi.x,.int .i64 l.fin.hi.y,.int .i64 l.bans],.agg #[.int .i64 s.t,.int .i64 s.p.x,.int .i64 s.p.y,.int .i64 s.f.x,.int .i64 s.f.y,.int .i64 s.d,.int .i64 s.g,.bool s.dn,.bool s.ov],.agg #[.int .i64 x.s,.int .i64 x.p,.bool x.z]] w fun e w'=>e= .returned (.agg #[.int .i64 (QR l s x).t,.int .i64 (QR l s x).p.x,.int .i64 (QR l s x).p.y,.int .i64 (QR l s x).f.x,.int .i64 (QR l s x).f.y,.int .i64 (QR l s x).d,.int .i64 (QR l s x).g,.bool (QR l s x).dn,.bool (QR l s x).ov])∧Below w.heap.size w w':=by
 obtain⟨t,⟨px,py⟩,⟨ux,uy⟩,d,g,dn,ov⟩:=s
 simp only at*
 subst hdn hov
 obtain⟨k,rfl⟩:=Int.eq_ofNat_of_zero_le hg0
 obtain⟨hx1,hx2⟩:=hx
 obtain⟨tn,htn⟩: ∃tn,(d+x.s+16) % 16=tn:=⟨_,rfl⟩
 have htn0:0≤tn∧tn≤15:=by omega
 obtain⟨ht0,ht1⟩:=htn0
 have hFok:=Qen tn x.p hf
 have hT:Qaz d x.s=tn:=htn
 obtain⟨fx,fy,hF⟩: ∃fx fy,Zx ⟨ux,uy⟩ tn x.p=⟨fx,fy⟩:=⟨_,_,rfl⟩
 rw[hF] at hFok
 obtain⟨mx,my,vx,vy,hM⟩: ∃mx my vx vy,ZK l ⟨px,py⟩ ⟨fx,fy⟩=(⟨mx,my⟩,⟨vx,vy⟩):=⟨_,_,_,_,rfl⟩
 go_enter Sq.func73, Tryz.ntmps73
 go_wp2_with fail
 refine(QqF ⟨t,⟨px,py⟩,⟨ux,uy⟩,d,k,false,false⟩ tn x.p _ hf ht0 ht1).mono ?_
 rintro e w1 ⟨rfl,hb1⟩
 have L1:Bk w1 (w.heap.size) 42 #[.int .i64 l.id,.int .i64 l.ticks,.int .i64 l.start.x,.int .i64 l.start.y,.slice A l.walls.length c,.slice A' l.gates.length c',.int .i64 l.fin.lo.x,.int .i64 l.fin.lo.y,.int .i64 l.fin.hi.x,.int .i64 l.fin.hi.y,.int .i64 l.bans]:=by(repeat first|(with_reducible first|assumption|exact kN _ _ _ (by simp)|refine kA ?_ _|refine kD ?_|refine kW ?_ _|apply Bk.set'|refine kF ?_ (by simp<;>omega) _|refine kL ?_ ‹_›|refine kG ?_ ‹_› (by first|omega|simp<;>omega))|exact⟨by with_reducible rfl⟩|exact⟨by simp⟩)
 have S1:Bk w1 (w.heap.size+1) 72 #[.int .i64 t,.int .i64 px,.int .i64 py,.int .i64 ux,.int .i64 uy,.int .i64 d,.int .i64 k,.bool false,.bool false]:=by(repeat first|(with_reducible first|assumption|exact kN _ _ _ (by simp)|refine kA ?_ _|refine kD ?_|refine kW ?_ _|apply Bk.set'|refine kF ?_ (by simp<;>omega) _|refine kL ?_ ‹_›|refine kG ?_ ‹_› (by first|omega|simp<;>omega))|exact⟨by with_reducible rfl⟩|exact⟨by simp⟩)
 have R1:Bk w1 (w.heap.size+1+1+1) 72 #[.int .i64 0,.int .i64 0,.int .i64 0,.int .i64 0,.int .i64 0,.int .i64 0,.int .i64 0,.bool false,.bool false]:=by(repeat first|(with_reducible first|assumption|exact kN _ _ _ (by simp)|refine kA ?_ _|refine kD ?_|refine kW ?_ _|apply Bk.set'|refine kF ?_ (by simp<;>omega) _|refine kL ?_ ‹_›|refine kG ?_ ‹_› (by first|omega|simp<;>omega))|exact⟨by with_reducible rfl⟩|exact⟨by simp⟩)
 have O1:Bk w1 (w.heap.size+1+1+1+1) 72 #[.int .i64 t,.int .i64 px,.int .i64 py,.int .i64 ux,.int .i64 uy,.int .i64 tn,.int .i64 k,.bool false,.bool false]:=by(repeat first|(with_reducible first|assumption|exact kN _ _ _ (by simp)|refine kA ?_ _|refine kD ?_|refine kW ?_ _|apply Bk.set'|refine kF ?_ (by simp<;>omega) _|refine kL ?_ ‹_›|refine kG ?_ ‹_› (by first|omega|simp<;>omega))|exact⟨by with_reducible rfl⟩|exact⟨by simp⟩)
 have hd1:Below w.heap.size w w1:=by(with_reducible repeat first|exact bl0 _ _|refine blA ?_ _|(refine blS ?_ ?_ _;(simp<;>omega))|refine blD ?_|refine blN ?_ _|refine blF ?_ ‹_›)
 clear hb1;have HT:=Lib.hid hT;clear hT htn
 have zL1:=L1.lt;have zS1:=S1.lt;have zR1:=R1.lt;have zO1:=O1.lt
 obtain⟨⟨l0,l1,l2,l3,l4,l5,l6,l7,l8,l9,l10⟩,lf⟩:=L1.c11;obtain⟨⟨s0,s1,s2,s3,s4,s5,s6,s7,s8⟩,sf⟩:=S1.c9;obtain⟨⟨o0,o1,o2,o3,o4,o5,o6,o7,o8⟩,of⟩:=O1.c9
 go_wp2_with fail
 refine(QqH l ⟨t,⟨px,py⟩,⟨fx,fy⟩,tn,k,false,false⟩ _ _ _ _ _ (h.below (by(with_reducible repeat first|exact bl0 _ _|refine blA ?_ _|(refine blS ?_ ?_ _;(simp<;>omega))|refine blD ?_|refine blN ?_ _|refine blF ?_ ‹_›))) hn hw hp hFok).mono ?_
 rintro e w2 ⟨rfl,hb2⟩
 have L2:Bk w2 (w.heap.size) 42 #[.int .i64 l.id,.int .i64 l.ticks,.int .i64 l.start.x,.int .i64 l.start.y,.slice A l.walls.length c,.slice A' l.gates.length c',.int .i64 l.fin.lo.x,.int .i64 l.fin.lo.y,.int .i64 l.fin.hi.x,.int .i64 l.fin.hi.y,.int .i64 l.bans]:=by(repeat first|(with_reducible first|assumption|exact kN _ _ _ (by simp)|refine kA ?_ _|refine kD ?_|refine kW ?_ _|apply Bk.set'|refine kF ?_ (by simp<;>omega) _|refine kL ?_ ‹_›|refine kG ?_ ‹_› (by first|omega|simp<;>omega))|exact⟨by with_reducible rfl⟩|exact⟨by simp⟩)
 have S2:Bk w2 (w.heap.size+1) 72 #[.int .i64 t,.int .i64 px,.int .i64 py,.int .i64 ux,.int .i64 uy,.int .i64 d,.int .i64 k,.bool false,.bool false]:=by(repeat first|(with_reducible first|assumption|exact kN _ _ _ (by simp)|refine kA ?_ _|refine kD ?_|refine kW ?_ _|apply Bk.set'|refine kF ?_ (by simp<;>omega) _|refine kL ?_ ‹_›|refine kG ?_ ‹_› (by first|omega|simp<;>omega))|exact⟨by with_reducible rfl⟩|exact⟨by simp⟩)
 have R2:Bk w2 (w.heap.size+1+1+1) 72 #[.int .i64 0,.int .i64 0,.int .i64 0,.int .i64 0,.int .i64 0,.int .i64 0,.int .i64 0,.bool false,.bool false]:=by(repeat first|(with_reducible first|assumption|exact kN _ _ _ (by simp)|refine kA ?_ _|refine kD ?_|refine kW ?_ _|apply Bk.set'|refine kF ?_ (by simp<;>omega) _|refine kL ?_ ‹_›|refine kG ?_ ‹_› (by first|omega|simp<;>omega))|exact⟨by with_reducible rfl⟩|exact⟨by simp⟩)
 have O2:Bk w2 (w.heap.size+1+1+1+1) 72 #[.int .i64 t,.int .i64 px,.int .i64 py,.int .i64 fx,.int .i64 fy,.int .i64 tn,.int .i64 k,.bool false,.bool false]:=by(repeat first|(with_reducible first|assumption|exact kN _ _ _ (by simp)|refine kA ?_ _|refine kD ?_|refine kW ?_ _|apply Bk.set'|refine kF ?_ (by simp<;>omega) _|refine kL ?_ ‹_›|refine kG ?_ ‹_› (by first|omega|simp<;>omega))|exact⟨by with_reducible rfl⟩|exact⟨by simp⟩)
 have hd2:Below w.heap.size w w2:=by(with_reducible repeat first|exact bl0 _ _|refine blA ?_ _|(refine blS ?_ ?_ _;(simp<;>omega))|refine blD ?_|refine blN ?_ _|refine blF ?_ ‹_›)
 clear hb2 hd1 l0 l1 l2 l3 l4 l5 l6 l7 l8 l9 l10 lf s0 s1 s2 s3 s4 s5 s6 s7 s8 sf o0 o1 o2 o3 o4 o5 o6 o7 o8 of L1 S1 R1 O1 zL1 zS1 zR1 zO1
 have zL2:=L2.lt;have zS2:=S2.lt;have zR2:=R2.lt;have zO2:=O2.lt
 obtain⟨⟨l0,l1,l2,l3,l4,l5,l6,l7,l8,l9,l10⟩,lf⟩:=L2.c11;obtain⟨⟨s0,s1,s2,s3,s4,s5,s6,s7,s8⟩,sf⟩:=S2.c9;obtain⟨⟨o0,o1,o2,o3,o4,o5,o6,o7,o8⟩,of⟩:=O2.c9
 go_wp2_with fail
 refine(Qe9 mx my _).mono ?_
 rintro e w3 ⟨rfl,hb3⟩
 have L3:Bk w3 (w.heap.size) 42 #[.int .i64 l.id,.int .i64 l.ticks,.int .i64 l.start.x,.int .i64 l.start.y,.slice A l.walls.length c,.slice A' l.gates.length c',.int .i64 l.fin.lo.x,.int .i64 l.fin.lo.y,.int .i64 l.fin.hi.x,.int .i64 l.fin.hi.y,.int .i64 l.bans]:=by(repeat first|(with_reducible first|assumption|exact kN _ _ _ (by simp)|refine kA ?_ _|refine kD ?_|refine kW ?_ _|apply Bk.set'|refine kF ?_ (by simp<;>omega) _|refine kL ?_ ‹_›|refine kG ?_ ‹_› (by first|omega|simp<;>omega))|exact⟨by with_reducible rfl⟩|exact⟨by simp⟩)
 have S3:Bk w3 (w.heap.size+1) 72 #[.int .i64 t,.int .i64 px,.int .i64 py,.int .i64 ux,.int .i64 uy,.int .i64 d,.int .i64 k,.bool false,.bool false]:=by(repeat first|(with_reducible first|assumption|exact kN _ _ _ (by simp)|refine kA ?_ _|refine kD ?_|refine kW ?_ _|apply Bk.set'|refine kF ?_ (by simp<;>omega) _|refine kL ?_ ‹_›|refine kG ?_ ‹_› (by first|omega|simp<;>omega))|exact⟨by with_reducible rfl⟩|exact⟨by simp⟩)
 have R3:Bk w3 (w.heap.size+1+1+1) 72 #[.int .i64 0,.int .i64 0,.int .i64 0,.int .i64 0,.int .i64 0,.int .i64 0,.int .i64 0,.bool false,.bool false]:=by(repeat first|(with_reducible first|assumption|exact kN _ _ _ (by simp)|refine kA ?_ _|refine kD ?_|refine kW ?_ _|apply Bk.set'|refine kF ?_ (by simp<;>omega) _|refine kL ?_ ‹_›|refine kG ?_ ‹_› (by first|omega|simp<;>omega))|exact⟨by with_reducible rfl⟩|exact⟨by simp⟩)
 have O3:Bk w3 (w.heap.size+1+1+1+1) 72 #[.int .i64 t,.int .i64 mx,.int .i64 my,.int .i64 vx,.int .i64 vy,.int .i64 tn,.int .i64 k,.bool false,.bool false]:=by(repeat first|(with_reducible first|assumption|exact kN _ _ _ (by simp)|refine kA ?_ _|refine kD ?_|refine kW ?_ _|apply Bk.set'|refine kF ?_ (by simp<;>omega) _|refine kL ?_ ‹_›|refine kG ?_ ‹_› (by first|omega|simp<;>omega))|exact⟨by with_reducible rfl⟩|exact⟨by simp⟩)
 have hd3:Below w.heap.size w w3:=by(with_reducible repeat first|exact bl0 _ _|refine blA ?_ _|(refine blS ?_ ?_ _;(simp<;>omega))|refine blD ?_|refine blN ?_ _|refine blF ?_ ‹_›)
 clear hb3 hd2 l0 l1 l2 l3 l4 l5 l6 l7 l8 l9 l10 lf s0 s1 s2 s3 s4 s5 s6 s7 s8 sf o0 o1 o2 o3 o4 o5 o6 o7 o8 of L2 S2 R2 O2 zL2 zS2 zR2 zO2
 have HM:=Lib.hid hM;have HF:=Lib.hid hF;clear hM hF
 have zL3:=L3.lt;have zS3:=S3.lt;have zR3:=R3.lt;have zO3:=O3.lt
 obtain⟨⟨l0,l1,l2,l3,l4,l5,l6,l7,l8,l9,l10⟩,lf⟩:=L3.c11;obtain⟨⟨s0,s1,s2,s3,s4,s5,s6,s7,s8⟩,sf⟩:=S3.c9;obtain⟨⟨r0,r1,r2,r3,r4,r5,r6,r7,r8⟩,rf⟩:=R3.c9;obtain⟨⟨o0,o1,o2,o3,o4,o5,o6,o7,o8⟩,of⟩:=O3.c9
 cases hV:vOk ⟨mx,my⟩
 ·have hG0:True:=trivial
  have hR:Hid (QR l ⟨t,⟨px,py⟩,⟨ux,uy⟩,d,k,false,false⟩ x=⟨t,⟨px,py⟩,⟨ux,uy⟩,d,k,false,true⟩):=Lib.hid (by unfold QR;simp only[HT.out,HF.out,HM.out];rw[hV];rfl)
  go_wp2
  refine bodyPost_ret (v:= .agg #[.int .i64 t,.int .i64 px,.int .i64 py,.int .i64 ux,.int .i64 uy,.int .i64 d,.int .i64 k,.bool false,.bool true]) (by simp[results, Tryz.results73,go_sem, *]) rfl ⟨by rw[hR.out],?_⟩;(with_reducible repeat first|exact bl0 _ _|refine blA ?_ _|(refine blS ?_ ?_ _;(simp<;>omega))|refine blD ?_|refine blN ?_ _|refine blF ?_ ‹_›)
 ·by_cases hlt:k<l.gates.length
  ·have hk:l.gates[k]? =some l.gates[k]:=List.getElem?_eq_getElem hlt
   generalize l.gates[k]=bx at hk
   have hGB:Xg l (k:Int) ⟨mx,my⟩=hasV bx ⟨mx,my⟩:=by unfold Xg;rw[Int.toNat_natCast,hk];simp
   cases hH:hasV bx ⟨mx,my⟩
   ·have hgl: ¬(k:Int)=(l.gates.length:Int):=by omega
    have hglb:((k:Int) == (l.gates.length:Int))=false:=by simpa using hgl
    have hR:Hid (QR l ⟨t,⟨px,py⟩,⟨ux,uy⟩,d,k,false,false⟩ x=⟨t,⟨mx,my⟩,⟨vx,vy⟩,tn,k,false,false⟩):=Lib.hid (by unfold QR;simp only[HT.out,HF.out,HM.out];rw[if_pos hV];simp only[hGB,hH];simp[hglb])
    have hlt2:(k:Int)<(l.gates.length:Int):=by omega
    clear hGB hgl
    obtain⟨b,off,x0,hA0,hbl,hx0,hc⟩:=(hg.below hd3).at_ hlt
    obtain rfl:x0=bx:=by rw[hk] at hx0;injection hx0 with hx0;exact hx0.symm
    subst hA0
    have q0:w3.cell? ⟨b,off+k*4,none⟩=some (.int .i64 x0.lo.x):=hc 0 _ rfl
    have q1:w3.cell? ⟨b,off+k*4+1,none⟩=some (.int .i64 x0.lo.y):=hc 1 _ rfl
    have q2:w3.cell? ⟨b,off+k*4+2,none⟩=some (.int .i64 x0.hi.x):=hc 2 _ rfl
    have q3:w3.cell? ⟨b,off+k*4+3,none⟩=some (.int .i64 x0.hi.y):=hc 3 _ rfl
    clear hk hx0 hc h hg
    go_wp2
    go_still_tail 15,(by kernel_rfl)
    change wpList _ _ _ _ _ w3.drew
    clear q0 q1 q2 q3
    go_wp2_with fail
    refine(Qc8 x0 ⟨mx,my⟩ _).mono ?_
    rintro e w4 ⟨rfl,hb4⟩
    have L4:Bk w4 (w.heap.size) 42 #[.int .i64 l.id,.int .i64 l.ticks,.int .i64 l.start.x,.int .i64 l.start.y,.slice A l.walls.length c,.slice (some ⟨b,off,none⟩) l.gates.length c',.int .i64 l.fin.lo.x,.int .i64 l.fin.lo.y,.int .i64 l.fin.hi.x,.int .i64 l.fin.hi.y,.int .i64 l.bans]:=by(repeat first|(with_reducible first|assumption|exact kN _ _ _ (by simp)|refine kA ?_ _|refine kD ?_|refine kW ?_ _|apply Bk.set'|refine kF ?_ (by simp<;>omega) _|refine kL ?_ ‹_›|refine kG ?_ ‹_› (by first|omega|simp<;>omega))|exact⟨by with_reducible rfl⟩|exact⟨by simp⟩)
    have R4:Bk w4 (w.heap.size+1+1+1) 72 #[.int .i64 0,.int .i64 0,.int .i64 0,.int .i64 0,.int .i64 0,.int .i64 0,.int .i64 0,.bool false,.bool false]:=by(repeat first|(with_reducible first|assumption|exact kN _ _ _ (by simp)|refine kA ?_ _|refine kD ?_|refine kW ?_ _|apply Bk.set'|refine kF ?_ (by simp<;>omega) _|refine kL ?_ ‹_›|refine kG ?_ ‹_› (by first|omega|simp<;>omega))|exact⟨by with_reducible rfl⟩|exact⟨by simp⟩)
    have O4:Bk w4 (w.heap.size+1+1+1+1) 72 #[.int .i64 t,.int .i64 mx,.int .i64 my,.int .i64 vx,.int .i64 vy,.int .i64 tn,.int .i64 k,.bool false,.bool false]:=by(repeat first|(with_reducible first|assumption|exact kN _ _ _ (by simp)|refine kA ?_ _|refine kD ?_|refine kW ?_ _|apply Bk.set'|refine kF ?_ (by simp<;>omega) _|refine kL ?_ ‹_›|refine kG ?_ ‹_› (by first|omega|simp<;>omega))|exact⟨by with_reducible rfl⟩|exact⟨by simp⟩)
    have hd4:Below w.heap.size w w4:=by(with_reducible repeat first|exact bl0 _ _|refine blA ?_ _|(refine blS ?_ ?_ _;(simp<;>omega))|refine blD ?_|refine blN ?_ _|refine blF ?_ ‹_›)
    clear hb4 hd3 l0 l1 l2 l3 l4 l5 l6 l7 l8 l9 l10 lf s0 s1 s2 s3 s4 s5 s6 s7 s8 sf r0 r1 r2 r3 r4 r5 r6 r7 r8 rf o0 o1 o2 o3 o4 o5 o6 o7 o8 of L3 S3 R3 O3 zL3 zS3 zR3 zO3
    have zL4:=L4.lt;have zR4:=R4.lt;have zO4:=O4.lt
    obtain⟨⟨l0,l1,l2,l3,l4,l5,l6,l7,l8,l9,l10⟩,lf⟩:=L4.c11;obtain⟨⟨r0,r1,r2,r3,r4,r5,r6,r7,r8⟩,rf⟩:=R4.c9;obtain⟨⟨o0,o1,o2,o3,o4,o5,o6,o7,o8⟩,of⟩:=O4.c9
    go_wp2
    refine bodyPost_ret (v:= .agg #[.int .i64 t,.int .i64 mx,.int .i64 my,.int .i64 vx,.int .i64 vy,.int .i64 tn,.int .i64 k,.bool false,.bool false]) (by simp[results, Tryz.results73,go_sem, *]) rfl ⟨by rw[hR.out],?_⟩;(with_reducible repeat first|exact bl0 _ _|refine blA ?_ _|(refine blS ?_ ?_ _;(simp<;>omega))|refine blD ?_|refine blN ?_ _|refine blF ?_ ‹_›)
   ·by_cases hgl:((k:Int)+1:Int)=(l.gates.length:Int)
    ·have hglb:((k:Int)+1 == (l.gates.length:Int))=true:=by simpa using hgl
     have hR:Hid (QR l ⟨t,⟨px,py⟩,⟨ux,uy⟩,d,k,false,false⟩ x=⟨t,⟨mx,my⟩,⟨vx,vy⟩,tn,k+1,(hasV l.fin ⟨mx,my⟩),false⟩):=Lib.hid (by unfold QR;simp only[HT.out,HF.out,HM.out];rw[if_pos hV];simp only[hGB,hH];simp[hglb])
     have hlt2:(k:Int)<(l.gates.length:Int):=by omega
     clear hGB hgl
     obtain⟨b,off,x0,hA0,hbl,hx0,hc⟩:=(hg.below hd3).at_ hlt
     obtain rfl:x0=bx:=by rw[hk] at hx0;injection hx0 with hx0;exact hx0.symm
     subst hA0
     have q0:w3.cell? ⟨b,off+k*4,none⟩=some (.int .i64 x0.lo.x):=hc 0 _ rfl
     have q1:w3.cell? ⟨b,off+k*4+1,none⟩=some (.int .i64 x0.lo.y):=hc 1 _ rfl
     have q2:w3.cell? ⟨b,off+k*4+2,none⟩=some (.int .i64 x0.hi.x):=hc 2 _ rfl
     have q3:w3.cell? ⟨b,off+k*4+3,none⟩=some (.int .i64 x0.hi.y):=hc 3 _ rfl
     clear hk hx0 hc h hg
     go_wp2
     go_still_tail 15,(by kernel_rfl)
     change wpList _ _ _ _ _ w3.drew
     clear q0 q1 q2 q3
     go_wp2_with fail
     refine(Qc8 x0 ⟨mx,my⟩ _).mono ?_
     rintro e w4 ⟨rfl,hb4⟩
     have L4:Bk w4 (w.heap.size) 42 #[.int .i64 l.id,.int .i64 l.ticks,.int .i64 l.start.x,.int .i64 l.start.y,.slice A l.walls.length c,.slice (some ⟨b,off,none⟩) l.gates.length c',.int .i64 l.fin.lo.x,.int .i64 l.fin.lo.y,.int .i64 l.fin.hi.x,.int .i64 l.fin.hi.y,.int .i64 l.bans]:=by(repeat first|(with_reducible first|assumption|exact kN _ _ _ (by simp)|refine kA ?_ _|refine kD ?_|refine kW ?_ _|apply Bk.set'|refine kF ?_ (by simp<;>omega) _|refine kL ?_ ‹_›|refine kG ?_ ‹_› (by first|omega|simp<;>omega))|exact⟨by with_reducible rfl⟩|exact⟨by simp⟩)
     have R4:Bk w4 (w.heap.size+1+1+1) 72 #[.int .i64 0,.int .i64 0,.int .i64 0,.int .i64 0,.int .i64 0,.int .i64 0,.int .i64 0,.bool false,.bool false]:=by(repeat first|(with_reducible first|assumption|exact kN _ _ _ (by simp)|refine kA ?_ _|refine kD ?_|refine kW ?_ _|apply Bk.set'|refine kF ?_ (by simp<;>omega) _|refine kL ?_ ‹_›|refine kG ?_ ‹_› (by first|omega|simp<;>omega))|exact⟨by with_reducible rfl⟩|exact⟨by simp⟩)
     have O4:Bk w4 (w.heap.size+1+1+1+1) 72 #[.int .i64 t,.int .i64 mx,.int .i64 my,.int .i64 vx,.int .i64 vy,.int .i64 tn,.int .i64 k,.bool false,.bool false]:=by(repeat first|(with_reducible first|assumption|exact kN _ _ _ (by simp)|refine kA ?_ _|refine kD ?_|refine kW ?_ _|apply Bk.set'|refine kF ?_ (by simp<;>omega) _|refine kL ?_ ‹_›|refine kG ?_ ‹_› (by first|omega|simp<;>omega))|exact⟨by with_reducible rfl⟩|exact⟨by simp⟩)
     have hd4:Below w.heap.size w w4:=by(with_reducible repeat first|exact bl0 _ _|refine blA ?_ _|(refine blS ?_ ?_ _;(simp<;>omega))|refine blD ?_|refine blN ?_ _|refine blF ?_ ‹_›)
     clear hb4 hd3 l0 l1 l2 l3 l4 l5 l6 l7 l8 l9 l10 lf s0 s1 s2 s3 s4 s5 s6 s7 s8 sf r0 r1 r2 r3 r4 r5 r6 r7 r8 rf o0 o1 o2 o3 o4 o5 o6 o7 o8 of L3 S3 R3 O3 zL3 zS3 zR3 zO3
     have zL4:=L4.lt;have zR4:=R4.lt;have zO4:=O4.lt
     obtain⟨⟨l0,l1,l2,l3,l4,l5,l6,l7,l8,l9,l10⟩,lf⟩:=L4.c11;obtain⟨⟨r0,r1,r2,r3,r4,r5,r6,r7,r8⟩,rf⟩:=R4.c9;obtain⟨⟨o0,o1,o2,o3,o4,o5,o6,o7,o8⟩,of⟩:=O4.c9
     go_wp2_with fail
     refine(Qc8 l.fin ⟨mx,my⟩ _).mono ?_
     rintro e w5 ⟨rfl,hb5⟩
     have R5:Bk w5 (w.heap.size+1+1+1) 72 #[.int .i64 0,.int .i64 0,.int .i64 0,.int .i64 0,.int .i64 0,.int .i64 0,.int .i64 0,.bool false,.bool false]:=by(repeat first|(with_reducible first|assumption|exact kN _ _ _ (by simp)|refine kA ?_ _|refine kD ?_|refine kW ?_ _|apply Bk.set'|refine kF ?_ (by simp<;>omega) _|refine kL ?_ ‹_›|refine kG ?_ ‹_› (by first|omega|simp<;>omega))|exact⟨by with_reducible rfl⟩|exact⟨by simp⟩)
     have O5:Bk w5 (w.heap.size+1+1+1+1) 72 #[.int .i64 t,.int .i64 mx,.int .i64 my,.int .i64 vx,.int .i64 vy,.int .i64 tn,.int .i64 (k+1),.bool false,.bool false]:=by(repeat first|(with_reducible first|assumption|exact kN _ _ _ (by simp)|refine kA ?_ _|refine kD ?_|refine kW ?_ _|apply Bk.set'|refine kF ?_ (by simp<;>omega) _|refine kL ?_ ‹_›|refine kG ?_ ‹_› (by first|omega|simp<;>omega))|exact⟨by with_reducible rfl⟩|exact⟨by simp⟩)
     have hd5:Below w.heap.size w w5:=by(with_reducible repeat first|exact bl0 _ _|refine blA ?_ _|(refine blS ?_ ?_ _;(simp<;>omega))|refine blD ?_|refine blN ?_ _|refine blF ?_ ‹_›)
     clear hb5 hd4 l0 l1 l2 l3 l4 l5 l6 l7 l8 l9 l10 lf r0 r1 r2 r3 r4 r5 r6 r7 r8 rf o0 o1 o2 o3 o4 o5 o6 o7 o8 of L4 R4 O4 zL4 zR4 zO4
     have zR5:=R5.lt;have zO5:=O5.lt
     obtain⟨⟨r0,r1,r2,r3,r4,r5,r6,r7,r8⟩,rf⟩:=R5.c9;obtain⟨⟨o0,o1,o2,o3,o4,o5,o6,o7,o8⟩,of⟩:=O5.c9
     go_wp2
     refine bodyPost_ret (v:= .agg #[.int .i64 t,.int .i64 mx,.int .i64 my,.int .i64 vx,.int .i64 vy,.int .i64 tn,.int .i64 (k+1),.bool ((hasV l.fin ⟨mx,my⟩)),.bool false]) (by simp[results, Tryz.results73,go_sem, *]) rfl ⟨by rw[hR.out],?_⟩;(with_reducible repeat first|exact bl0 _ _|refine blA ?_ _|(refine blS ?_ ?_ _;(simp<;>omega))|refine blD ?_|refine blN ?_ _|refine blF ?_ ‹_›)
    ·have hglb:((k:Int)+1 == (l.gates.length:Int))=false:=by simpa using hgl
     have hR:Hid (QR l ⟨t,⟨px,py⟩,⟨ux,uy⟩,d,k,false,false⟩ x=⟨t,⟨mx,my⟩,⟨vx,vy⟩,tn,k+1,false,false⟩):=Lib.hid (by unfold QR;simp only[HT.out,HF.out,HM.out];rw[if_pos hV];simp only[hGB,hH];simp[hglb])
     have hlt2:(k:Int)<(l.gates.length:Int):=by omega
     clear hGB hgl
     obtain⟨b,off,x0,hA0,hbl,hx0,hc⟩:=(hg.below hd3).at_ hlt
     obtain rfl:x0=bx:=by rw[hk] at hx0;injection hx0 with hx0;exact hx0.symm
     subst hA0
     have q0:w3.cell? ⟨b,off+k*4,none⟩=some (.int .i64 x0.lo.x):=hc 0 _ rfl
     have q1:w3.cell? ⟨b,off+k*4+1,none⟩=some (.int .i64 x0.lo.y):=hc 1 _ rfl
     have q2:w3.cell? ⟨b,off+k*4+2,none⟩=some (.int .i64 x0.hi.x):=hc 2 _ rfl
     have q3:w3.cell? ⟨b,off+k*4+3,none⟩=some (.int .i64 x0.hi.y):=hc 3 _ rfl
     clear hk hx0 hc h hg
     go_wp2
     go_still_tail 15,(by kernel_rfl)
     change wpList _ _ _ _ _ w3.drew
     clear q0 q1 q2 q3
     go_wp2_with fail
     refine(Qc8 x0 ⟨mx,my⟩ _).mono ?_
     rintro e w4 ⟨rfl,hb4⟩
     have L4:Bk w4 (w.heap.size) 42 #[.int .i64 l.id,.int .i64 l.ticks,.int .i64 l.start.x,.int .i64 l.start.y,.slice A l.walls.length c,.slice (some ⟨b,off,none⟩) l.gates.length c',.int .i64 l.fin.lo.x,.int .i64 l.fin.lo.y,.int .i64 l.fin.hi.x,.int .i64 l.fin.hi.y,.int .i64 l.bans]:=by(repeat first|(with_reducible first|assumption|exact kN _ _ _ (by simp)|refine kA ?_ _|refine kD ?_|refine kW ?_ _|apply Bk.set'|refine kF ?_ (by simp<;>omega) _|refine kL ?_ ‹_›|refine kG ?_ ‹_› (by first|omega|simp<;>omega))|exact⟨by with_reducible rfl⟩|exact⟨by simp⟩)
     have R4:Bk w4 (w.heap.size+1+1+1) 72 #[.int .i64 0,.int .i64 0,.int .i64 0,.int .i64 0,.int .i64 0,.int .i64 0,.int .i64 0,.bool false,.bool false]:=by(repeat first|(with_reducible first|assumption|exact kN _ _ _ (by simp)|refine kA ?_ _|refine kD ?_|refine kW ?_ _|apply Bk.set'|refine kF ?_ (by simp<;>omega) _|refine kL ?_ ‹_›|refine kG ?_ ‹_› (by first|omega|simp<;>omega))|exact⟨by with_reducible rfl⟩|exact⟨by simp⟩)
     have O4:Bk w4 (w.heap.size+1+1+1+1) 72 #[.int .i64 t,.int .i64 mx,.int .i64 my,.int .i64 vx,.int .i64 vy,.int .i64 tn,.int .i64 k,.bool false,.bool false]:=by(repeat first|(with_reducible first|assumption|exact kN _ _ _ (by simp)|refine kA ?_ _|refine kD ?_|refine kW ?_ _|apply Bk.set'|refine kF ?_ (by simp<;>omega) _|refine kL ?_ ‹_›|refine kG ?_ ‹_› (by first|omega|simp<;>omega))|exact⟨by with_reducible rfl⟩|exact⟨by simp⟩)
     have hd4:Below w.heap.size w w4:=by(with_reducible repeat first|exact bl0 _ _|refine blA ?_ _|(refine blS ?_ ?_ _;(simp<;>omega))|refine blD ?_|refine blN ?_ _|refine blF ?_ ‹_›)
     clear hb4 hd3 l0 l1 l2 l3 l4 l5 l6 l7 l8 l9 l10 lf s0 s1 s2 s3 s4 s5 s6 s7 s8 sf r0 r1 r2 r3 r4 r5 r6 r7 r8 rf o0 o1 o2 o3 o4 o5 o6 o7 o8 of L3 S3 R3 O3 zL3 zS3 zR3 zO3
     have zL4:=L4.lt;have zR4:=R4.lt;have zO4:=O4.lt
     obtain⟨⟨l0,l1,l2,l3,l4,l5,l6,l7,l8,l9,l10⟩,lf⟩:=L4.c11;obtain⟨⟨r0,r1,r2,r3,r4,r5,r6,r7,r8⟩,rf⟩:=R4.c9;obtain⟨⟨o0,o1,o2,o3,o4,o5,o6,o7,o8⟩,of⟩:=O4.c9
     go_wp2
     refine bodyPost_ret (v:= .agg #[.int .i64 t,.int .i64 mx,.int .i64 my,.int .i64 vx,.int .i64 vy,.int .i64 tn,.int .i64 (k+1),.bool false,.bool false]) (by simp[results, Tryz.results73,go_sem, *]) rfl ⟨by rw[hR.out],?_⟩;(with_reducible repeat first|exact bl0 _ _|refine blA ?_ _|(refine blS ?_ ?_ _;(simp<;>omega))|refine blD ?_|refine blN ?_ _|refine blF ?_ ‹_›)
  ·have hGB:Xg l (k:Int) ⟨mx,my⟩=false:=by unfold Xg;rw[Int.toNat_natCast,List.getElem?_eq_none (by omega)]
   have hlt2:decide ((k:Int)<(l.gates.length:Int))=false:=by simpa using hlt
   have hlt4:decide (k<l.gates.length)=false:=by simpa using hlt
   have hlt3:(l.gates.length:Int)≤(k:Int):=by omega
   by_cases hgl:(k:Int)=(l.gates.length:Int)
   ·have hglb:((k:Int) == (l.gates.length:Int))=true:=by simpa using hgl
    have hR:Hid (QR l ⟨t,⟨px,py⟩,⟨ux,uy⟩,d,k,false,false⟩ x=⟨t,⟨mx,my⟩,⟨vx,vy⟩,tn,k,(hasV l.fin ⟨mx,my⟩),false⟩):=Lib.hid (by unfold QR;simp only[HT.out,HF.out,HM.out];rw[if_pos hV];simp only[hGB];simp[hglb])
    clear hgl hlt
    clear h hg hGB
    go_wp2
    go_quiet (fail)
    go_wp2_with fail
    refine(Qc8 l.fin ⟨mx,my⟩ _).mono ?_
    rintro e w5 ⟨rfl,hb5⟩
    have R5:Bk w5 (w.heap.size+1+1+1) 72 #[.int .i64 0,.int .i64 0,.int .i64 0,.int .i64 0,.int .i64 0,.int .i64 0,.int .i64 0,.bool false,.bool false]:=by(repeat first|(with_reducible first|assumption|exact kN _ _ _ (by simp)|refine kA ?_ _|refine kD ?_|refine kW ?_ _|apply Bk.set'|refine kF ?_ (by simp<;>omega) _|refine kL ?_ ‹_›|refine kG ?_ ‹_› (by first|omega|simp<;>omega))|exact⟨by with_reducible rfl⟩|exact⟨by simp⟩)
    have O5:Bk w5 (w.heap.size+1+1+1+1) 72 #[.int .i64 t,.int .i64 mx,.int .i64 my,.int .i64 vx,.int .i64 vy,.int .i64 tn,.int .i64 k,.bool false,.bool false]:=by(repeat first|(with_reducible first|assumption|exact kN _ _ _ (by simp)|refine kA ?_ _|refine kD ?_|refine kW ?_ _|apply Bk.set'|refine kF ?_ (by simp<;>omega) _|refine kL ?_ ‹_›|refine kG ?_ ‹_› (by first|omega|simp<;>omega))|exact⟨by with_reducible rfl⟩|exact⟨by simp⟩)
    have hd5:Below w.heap.size w w5:=by(with_reducible repeat first|exact bl0 _ _|refine blA ?_ _|(refine blS ?_ ?_ _;(simp<;>omega))|refine blD ?_|refine blN ?_ _|refine blF ?_ ‹_›)
    clear hb5 hd3 l0 l1 l2 l3 l4 l5 l6 l7 l8 l9 l10 lf s0 s1 s2 s3 s4 s5 s6 s7 s8 sf r0 r1 r2 r3 r4 r5 r6 r7 r8 rf o0 o1 o2 o3 o4 o5 o6 o7 o8 of L3 S3 R3 O3 zL3 zS3 zR3 zO3
    have zR5:=R5.lt;have zO5:=O5.lt
    obtain⟨⟨r0,r1,r2,r3,r4,r5,r6,r7,r8⟩,rf⟩:=R5.c9;obtain⟨⟨o0,o1,o2,o3,o4,o5,o6,o7,o8⟩,of⟩:=O5.c9
    go_wp2
    refine bodyPost_ret (v:= .agg #[.int .i64 t,.int .i64 mx,.int .i64 my,.int .i64 vx,.int .i64 vy,.int .i64 tn,.int .i64 k,.bool ((hasV l.fin ⟨mx,my⟩)),.bool false]) (by simp[results, Tryz.results73,go_sem, *]) rfl ⟨by rw[hR.out],?_⟩;(with_reducible repeat first|exact bl0 _ _|refine blA ?_ _|(refine blS ?_ ?_ _;(simp<;>omega))|refine blD ?_|refine blN ?_ _|refine blF ?_ ‹_›)
   ·have hglb:((k:Int) == (l.gates.length:Int))=false:=by simpa using hgl
    have hR:Hid (QR l ⟨t,⟨px,py⟩,⟨ux,uy⟩,d,k,false,false⟩ x=⟨t,⟨mx,my⟩,⟨vx,vy⟩,tn,k,false,false⟩):=Lib.hid (by unfold QR;simp only[HT.out,HF.out,HM.out];rw[if_pos hV];simp only[hGB];simp[hglb])
    clear hgl hlt
    clear h hg hGB
    go_wp2
    go_quiet (fail)
    go_wp2
    refine bodyPost_ret (v:= .agg #[.int .i64 t,.int .i64 mx,.int .i64 my,.int .i64 vx,.int .i64 vy,.int .i64 tn,.int .i64 k,.bool false,.bool false]) (by simp[results, Tryz.results73,go_sem, *]) rfl ⟨by rw[hR.out],?_⟩;(with_reducible repeat first|exact bl0 _ _|refine blA ?_ _|(refine blS ?_ ?_ _;(simp<;>omega))|refine blD ?_|refine blN ?_ _|refine blF ?_ ‹_›)
end Go.Proofs.YtgaimkihacljdaaGreat
/- The reference's tick: l13Step. Printed by gen/drive.py. -/
namespace Go.Proofs.YtgaimkihacljdaaGreat
open Go.ChangeShapes Go.WideShapes Go.ChangeAt Go.RowKit
set_option maxRecDepth 100000 in
set_option maxHeartbeats 1000000 in
theorem QdG(l:Lev)(s:St)(x:Inp)(A A':Option Addr)(c c':Nat)(w:World)(h:Sl w 4 Qc A l.walls.length l.walls)(hg:Sl w 4 Qc A' l.gates.length l.gates)(hn:(l.walls.length:Nat)≤9223372036854775807)
 (hw: ∀b∈l.walls,bdBx b)(hs:sOk l s)(hgl:l.gates.length≤1000000)(ht0:0≤s.t)(ht1:s.t≤1000000)(hx: -1≤x.s∧x.s≤1):
 Calls Sq.prog 50 #[.agg #[.int .i64 l.id,.int .i64 l.ticks,.int .i64 l.start.x,.int .i64 l.start.y,.slice A l.walls.length c,.slice A' l.gates.length c',.int .i64 l.fin.lo.x,.int .i64 l.fin.lo.y,.int .i64 l.fin.hi.x,.int .i64 l.fin.hi.y,.int .i64 l.bans],.agg #[.int .i64 s.t,.int .i64 s.p.x,.int .i64 s.p.y,.int .i64 s.f.x,.int .i64 s.f.y,.int .i64 s.d,.int .i64 s.g,.bool s.dn,.bool s.ov],.agg #[.int .i64 x.s,.int .i64 x.p,.bool x.z]] w fun e w'=>e= .returned (.agg #[.int .i64 (Qr l s x).t,.int .i64 (Qr l s x).p.x,.int .i64 (Qr l s x).p.y,.int .i64 (Qr l s x).f.x,.int .i64 (Qr l s x).f.y,.int .i64 (Qr l s x).d,.int .i64 (Qr l s x).g,.bool (Qr l s x).dn,.bool (Qr l s x).ov])∧Below w.heap.size w w':=by
 have hp:=hs.p
 have hf:=hs.f
 have hd0:=hs.d0
 have hd1:=hs.d1
 have hg0:=hs.g0
 have hg1:=hs.g1
 clear hs
 obtain⟨t,⟨px,py⟩,⟨ux,uy⟩,d,g,dn,ov⟩:=s
 obtain⟨xs,xp,xz⟩:=x
 simp only at*
 cases hdn:dn
 ·subst hdn
  cases hov:ov
  ·subst hov
   cases xz
   ·have hR:Hid (Qr l ⟨t,⟨px,py⟩,⟨ux,uy⟩,d,g,false,false⟩ ⟨xs,xp,false⟩=QR l ⟨t+1,⟨px,py⟩,⟨ux,uy⟩,d,g,false,false⟩ ⟨xs,xp,false⟩):=Lib.hid (by unfold Qr;simp)
    go_enter Sq.func50, Tryz.ntmps50
    go_wp2_with fail
    refine(QqE l ⟨t+1,⟨px,py⟩,⟨ux,uy⟩,d,g,false,false⟩ ⟨xs,xp,false⟩ _ _ _ _ _ (h.below (by(with_reducible repeat first|exact bl0 _ _|refine blA ?_ _|(refine blS ?_ ?_ _;(simp<;>omega))|refine blD ?_|refine blN ?_ _|refine blF ?_ ‹_›))) (hg.below (by(with_reducible repeat first|exact bl0 _ _|refine blA ?_ _|(refine blS ?_ ?_ _;(simp<;>omega))|refine blD ?_|refine blN ?_ _|refine blF ?_ ‹_›))) hn hw hp hf hd0 hd1 hg0 (show g≤1000000 by omega) hx rfl rfl).mono ?_
    generalize QR l ⟨t+1,⟨px,py⟩,⟨ux,uy⟩,d,g,false,false⟩ ⟨xs,xp,false⟩=D at*
    rintro e w1 ⟨rfl,hb1⟩
    have R1:Bk w1 (w.heap.size+1+1+1) 72 #[.int .i64 0,.int .i64 0,.int .i64 0,.int .i64 0,.int .i64 0,.int .i64 0,.int .i64 0,.bool false,.bool false]:=by(repeat first|(with_reducible first|assumption|exact kN _ _ _ (by simp)|refine kA ?_ _|refine kD ?_|refine kW ?_ _|apply Bk.set'|refine kF ?_ (by simp<;>omega) _|refine kL ?_ ‹_›|refine kG ?_ ‹_› (by first|omega|simp<;>omega))|exact⟨by with_reducible rfl⟩|exact⟨by simp⟩)
    have hd1:Below w.heap.size w w1:=by(with_reducible repeat first|exact bl0 _ _|refine blA ?_ _|(refine blS ?_ ?_ _;(simp<;>omega))|refine blD ?_|refine blN ?_ _|refine blF ?_ ‹_›)
    clear hb1
    obtain⟨⟨r0,r1,r2,r3,r4,r5,r6,r7,r8⟩,rf⟩:=R1.c9
    go_wp2
    refine bodyPost_ret (v:= .agg #[.int .i64 D.t,.int .i64 D.p.x,.int .i64 D.p.y,.int .i64 D.f.x,.int .i64 D.f.y,.int .i64 D.d,.int .i64 D.g,.bool D.dn,.bool D.ov]) (by simp[results, Tryz.results50,go_sem, *]) rfl ⟨by rw[hR.out],?_⟩;(with_reducible repeat first|exact bl0 _ _|refine blA ?_ _|(refine blS ?_ ?_ _;(simp<;>omega))|refine blD ?_|refine blN ?_ _|refine blF ?_ ‹_›)
   ·have hR:Hid (Qr l ⟨t,⟨px,py⟩,⟨ux,uy⟩,d,g,false,false⟩ ⟨xs,xp,true⟩=⟨t+1,⟨px,py⟩,⟨ux,uy⟩,d,g,false,false⟩):=Lib.hid (by unfold Qr;simp)
    go_enter Sq.func50, Tryz.ntmps50
    go_wp2
    refine bodyPost_ret (v:= .agg #[.int .i64 (t+1),.int .i64 px,.int .i64 py,.int .i64 ux,.int .i64 uy,.int .i64 d,.int .i64 g,.bool false,.bool false]) (by simp[results, Tryz.results50,go_sem, *]) rfl ⟨by rw[hR.out],?_⟩;(with_reducible repeat first|exact bl0 _ _|refine blA ?_ _|(refine blS ?_ ?_ _;(simp<;>omega))|refine blD ?_|refine blN ?_ _|refine blF ?_ ‹_›)
  ·subst hov
   have hR:Hid (Qr l ⟨t,⟨px,py⟩,⟨ux,uy⟩,d,g,false,true⟩ ⟨xs,xp,xz⟩=⟨t,⟨px,py⟩,⟨ux,uy⟩,d,g,false,true⟩):=Lib.hid (by unfold Qr;simp)
   go_enter Sq.func50, Tryz.ntmps50
   go_wp2
   refine bodyPost_ret (v:= .agg #[.int .i64 t,.int .i64 px,.int .i64 py,.int .i64 ux,.int .i64 uy,.int .i64 d,.int .i64 g,.bool false,.bool true]) (by simp[results, Tryz.results50,go_sem, *]) rfl ⟨by rw[hR.out],?_⟩;(with_reducible repeat first|exact bl0 _ _|refine blA ?_ _|(refine blS ?_ ?_ _;(simp<;>omega))|refine blD ?_|refine blN ?_ _|refine blF ?_ ‹_›)
 ·subst hdn
  have hR:Hid (Qr l ⟨t,⟨px,py⟩,⟨ux,uy⟩,d,g,true,ov⟩ ⟨xs,xp,xz⟩=⟨t,⟨px,py⟩,⟨ux,uy⟩,d,g,true,ov⟩):=Lib.hid (by unfold Qr;simp)
  go_enter Sq.func50, Tryz.ntmps50
  go_wp2
  refine bodyPost_ret (v:= .agg #[.int .i64 t,.int .i64 px,.int .i64 py,.int .i64 ux,.int .i64 uy,.int .i64 d,.int .i64 g,.bool true,.bool ov]) (by simp[results, Tryz.results50,go_sem, *]) rfl ⟨by rw[hR.out],?_⟩;(with_reducible repeat first|exact bl0 _ _|refine blA ?_ _|(refine blS ?_ ?_ _;(simp<;>omega))|refine blD ?_|refine blN ?_ _|refine blF ?_ ‹_›)
theorem Qjf(l:Lev)(A A':Option Addr)(c c':Nat)(w:World):Calls Sq.prog 49 #[.agg #[.int .i64 l.id,.int .i64 l.ticks,.int .i64 l.start.x,.int .i64 l.start.y,.slice A l.walls.length c,.slice A' l.gates.length c',.int .i64 l.fin.lo.x,.int .i64 l.fin.lo.y,.int .i64 l.fin.hi.x,.int .i64 l.fin.hi.y,.int .i64 l.bans]] w fun e w'=>e= .returned (.agg #[.int .i64 (st0 l).t,.int .i64 (st0 l).p.x,.int .i64 (st0 l).p.y,.int .i64 (st0 l).f.x,.int .i64 (st0 l).f.y,.int .i64 (st0 l).d,.int .i64 (st0 l).g,.bool (st0 l).dn,.bool (st0 l).ov])∧Below w.heap.size w w':=by
 go_enter Sq.func49, Tryz.ntmps49
 go_wp2
 refine bodyPost_ret (v:= .agg #[.int .i64 0,.int .i64 l.start.x,.int .i64 l.start.y,.int .i64 0,.int .i64 0,.int .i64 0,.int .i64 0,.bool false,.bool false]) (by simp[results, Tryz.results49,go_sem]) rfl ⟨rfl,?_⟩;(with_reducible repeat first|exact bl0 _ _|refine blA ?_ _|(refine blS ?_ ?_ _;(simp<;>omega))|refine blD ?_|refine blN ?_ _|refine blF ?_ ‹_›)
end Go.Proofs.YtgaimkihacljdaaGreat
