/- Lemmas: ImpC ImpD ImpE ImpF ImpG ImpH ImpI. -/
import Derived.Test.YtgaimkihacljdaaGreatZImpA
import Derived.Test.YtgaimkihacljdaaGreatZSpec
import Derived.Laws.StructEq
import Derived.Deep.DeepMust
import Derived.Deep.RegionHeld3
import Derived.Deep.LoopGhost
import Derived.LoopN
import Derived.Test.YtgaimkihacljdaaGreatZBase
import Derived.Lib.AppendZeros
import Derived.Deep.Cut
import Derived.Deep.CutRange
import Derived.Deep.CutBlock
/- The program's VecClamp, and how fast a car gets. (Round B) -/
namespace Go.Proofs.YtgaimkihacljdaaGreat
open Go.ChangeShapes Go.WideShapes Go.ChangeAt Go.RowKit
set_option maxRecDepth 100000 in
theorem Qqa(v:V2)(m:Int)(w:World)(hv: -100000≤v.x∧v.x≤100000∧ -100000≤v.y∧v.y≤100000)(m0:0≤m)(m1:m≤1000000):
 Calls Sq.prog 122 #[.agg #[.int .i64 v.x,.int .i64 v.y],.int .i64 m] w fun e w'=>e= .returned (.tuple #[.agg #[.int .i64 (XB v m).x,.int .i64 (XB v m).y],.bool true])∧Below w.heap.size w w':=by
 obtain⟨a1,a2,a3,a4⟩:=hv
 have hvk:vOk v=true:=ZO.2 (by omega)
 have hl:=QeJ v
 have hin:inR 0 1000000 m=true:=Q5.2 ⟨m0,m1⟩
 by_cases hm:lenV v≤m
 ·have hc:XB v m=v:=by unfold XB;rw[if_pos hm]
  rw[hc]
  clear hc
  go_enter Sq.func122, Tryz.ntmps122
  go_wp2_with fail
  refine(Qar v _ hvk).mono ?_
  rintro e w1 ⟨rfl,hb1⟩
  obtain⟨hc1,hf1⟩:=Qy hb1;have hy1:w.heap.size<w1.heap.size:=(by have:=hb1.size;first|omega|(simp at this;omega));have hz1:w.heap.size+1<w1.heap.size:=(by have:=hb1.size;first|omega|(simp at this;omega))
  go_wp2_with fail
  refine(QZ _ _ _ _).mono ?_
  rw[hin]
  rintro e w2 ⟨rfl,rfl⟩
  go_wp2
  refine bodyPost_ret (v:= .tuple #[.agg #[.int .i64 v.x,.int .i64 v.y],.bool true]) (by simp[results, Tryz.results122,go_sem, *]) rfl ⟨rfl,?_⟩
  (with_reducible repeat first|assumption|exact bl0 _ _|refine blA ?_ _|(refine blS ?_ ?_ _;(simp<;>omega))|refine blD ?_|refine blN ?_ _|refine blF ?_ ‹_›)
 ·have hc:XB v m=⟨(v.x*m).tdiv (lenV v),(v.y*m).tdiv (lenV v)⟩:=by unfold XB;rw[if_neg hm]
  have hx:=QeQ a1 a2 m0 m1
  have hy:=QeQ a3 a4 m0 m1
  have hX:=QbQ (b:=lenV v) hx
  have hY:=QbQ (b:=lenV v) hy
  have hl0:0<lenV v:=by omega
  have hne: ¬lenV v=0:=by omega
  rw[hc]
  clear hc
  go_enter Sq.func122, Tryz.ntmps122
  go_wp2_with fail
  refine(Qar v _ hvk).mono ?_
  rintro e w1 ⟨rfl,hb1⟩
  obtain⟨hc1,hf1⟩:=Qy hb1;have hy1:w.heap.size<w1.heap.size:=(by have:=hb1.size;first|omega|(simp at this;omega));have hz1:w.heap.size+1<w1.heap.size:=(by have:=hb1.size;first|omega|(simp at this;omega))
  go_wp2_with fail
  refine(QZ _ _ _ _).mono ?_
  rw[hin]
  rintro e w2 ⟨rfl,rfl⟩
  go_wp2_with fail
  refine Xq (fun W=>Bk W w.heap.size 37 #[.int .i64 v.x,.int .i64 v.y]∧Bk W (w.heap.size+1) 37 #[.int .i64 0,.int .i64 0]∧Below w.heap.size w W) ⟨((Bk.new _ _ _ rfl).alloc _).later hb1,(Bk.new _ _ _ (by simp)).later hb1,by(with_reducible repeat first|exact bl0 _ _|refine blA ?_ _|(refine blS ?_ ?_ _;(simp<;>omega))|refine blD ?_|refine blN ?_ _|refine blF ?_ ‹_›)⟩ ?_
  rintro W ⟨hA,hB,hd⟩
  obtain⟨⟨p0,p1⟩,pf⟩:=hA.c2
  obtain⟨⟨b0,b1⟩,bf⟩:=hB.c2
  clear hb1 hc1 hf1 hy1 hz1
  have e1:IntKind.i64.wrap (v.x*m)=v.x*m:=IntWalk.i64_in _ (by omega)
  have e2:IntKind.i64.wrap (v.y*m)=v.y*m:=IntWalk.i64_in _ (by omega)
  have e3:IntKind.i64.wrap ((v.x*m).tdiv (lenV v))=(v.x*m).tdiv (lenV v):=IntWalk.i64_in _ (by omega)
  have e4:IntKind.i64.wrap ((v.y*m).tdiv (lenV v))=(v.y*m).tdiv (lenV v):=IntWalk.i64_in _ (by omega)
  go_still_tail 13,(by kernel_rfl)
  clear e1 e2 e3 e4
  change wpList _ _ _ _ _ W.drew
  go_wp2
  refine bodyPost_ret (v:= .tuple #[.agg #[.int .i64 ((v.x*m).tdiv (lenV v)),.int .i64 ((v.y*m).tdiv (lenV v))],.bool true]) (by simp[results, Tryz.results122,go_sem,b0,b1]) rfl ⟨rfl,?_⟩;(with_reducible repeat first|exact bl0 _ _|refine blA ?_ _|(refine blS ?_ ?_ _;(simp<;>omega))|refine blD ?_|refine blN ?_ _|refine blF ?_ ‹_›)
set_option maxRecDepth 100000 in
set_option maxHeartbeats 2000000 in
theorem Qvv(st pw:Int)(s:St)(w:World)(hf:fOk s.f)(h0:0≤s.d)(h1:s.d≤15):
 Calls Sq.prog 114 #[.agg #[.int .i64 st,.int .i64 pw],.agg #[.int .i64 s.t,.int .i64 s.p.x,.int .i64 s.p.y,.int .i64 s.f.x,.int .i64 s.f.y,.int .i64 s.d,.int .i64 s.g,.bool s.dn,.bool s.ov]] w fun e w'=>e= .returned (.agg #[.int .i64 (Zx s.f s.d pw).x,.int .i64 (Zx s.f s.d pw).y])∧Below w.heap.size w w':=by
 obtain⟨f1,f2,f3,f4⟩:=JN hf
 obtain⟨g1,g2,g3,g4⟩:=Qkc h0 h1
 have hfk:vOk s.f=true:=ZO.2 (by omega)
 by_cases hp1:pw=1
 ·subst hp1
  have hr:Zx s.f s.d 1=XB ⟨s.f.x+(QQ (dirV s.d) 200).x,s.f.y+(QQ (dirV s.d) 200).y⟩ 2000:=by unfold Zx;rw[if_pos rfl]
  rw[hr]
  clear hr
  obtain⟨k1,k2,k3,k4⟩:=QfH h0 h1
  go_enter Sq.func114, Tryz.ntmps114
  go_wp2_with fail
  refine(Qqb s.d _ h0 h1).mono ?_
  rintro e w1 ⟨rfl,hb1⟩
  have S1:Bk w1 (w.heap.size+1) 72 #[.int .i64 s.t,.int .i64 s.p.x,.int .i64 s.p.y,.int .i64 s.f.x,.int .i64 s.f.y,.int .i64 s.d,.int .i64 s.g,.bool s.dn,.bool s.ov]:=Bk.later (by(repeat first|(with_reducible first|assumption|exact kN _ _ _ (by simp)|refine kA ?_ _|refine kD ?_|refine kW ?_ _|apply Bk.set'|refine kF ?_ (by simp<;>omega) _|refine kL ?_ ‹_›|refine kG ?_ ‹_› (by first|omega|simp<;>omega))|exact⟨by with_reducible rfl⟩|exact⟨by simp⟩)) hb1
  have R1:Bk w1 (w.heap.size+1+1) 37 #[.int .i64 0,.int .i64 0]:=Bk.later (by(repeat first|(with_reducible first|assumption|exact kN _ _ _ (by simp)|refine kA ?_ _|refine kD ?_|refine kW ?_ _|apply Bk.set'|refine kF ?_ (by simp<;>omega) _|refine kL ?_ ‹_›|refine kG ?_ ‹_› (by first|omega|simp<;>omega))|exact⟨by with_reducible rfl⟩|exact⟨by simp⟩)) hb1
  have d1:Below w.heap.size w w1:=by(with_reducible repeat first|exact bl0 _ _|refine blA ?_ _|(refine blS ?_ ?_ _;(simp<;>omega))|refine blD ?_|refine blN ?_ _|refine blF ?_ ‹_›)
  clear hb1
  go_wp2_with fail
  refine(Qgd (dirV s.d) 200 _ (ZO.2 (by omega)) (by omega) (by omega) (ZO.2 (by omega))).mono ?_
  rintro e w2 ⟨rfl,hb2⟩
  have S2:Bk w2 (w.heap.size+1) 72 #[.int .i64 s.t,.int .i64 s.p.x,.int .i64 s.p.y,.int .i64 s.f.x,.int .i64 s.f.y,.int .i64 s.d,.int .i64 s.g,.bool s.dn,.bool s.ov]:=Bk.later (by(repeat first|(with_reducible first|assumption|exact kN _ _ _ (by simp)|refine kA ?_ _|refine kD ?_|refine kW ?_ _|apply Bk.set'|refine kF ?_ (by simp<;>omega) _|refine kL ?_ ‹_›|refine kG ?_ ‹_› (by first|omega|simp<;>omega))|exact⟨by with_reducible rfl⟩|exact⟨by simp⟩)) hb2
  have R2:Bk w2 (w.heap.size+1+1) 37 #[.int .i64 0,.int .i64 0]:=Bk.later (by(repeat first|(with_reducible first|assumption|exact kN _ _ _ (by simp)|refine kA ?_ _|refine kD ?_|refine kW ?_ _|apply Bk.set'|refine kF ?_ (by simp<;>omega) _|refine kL ?_ ‹_›|refine kG ?_ ‹_› (by first|omega|simp<;>omega))|exact⟨by with_reducible rfl⟩|exact⟨by simp⟩)) hb2
  have d2:Below w.heap.size w w2:=by(with_reducible repeat first|exact bl0 _ _|refine blA ?_ _|(refine blS ?_ ?_ _;(simp<;>omega))|refine blD ?_|refine blN ?_ _|refine blF ?_ ‹_›)
  have z2:=R2.lt
  have zS:=S2.lt
  clear hb2 S1 R1 d1
  obtain⟨⟨p0,p1,p2,p3,p4,p5,p6,p7,p8⟩,pf⟩:=S2.c9
  go_wp2_with fail
  refine(Qp9 s.f (QQ (dirV s.d) 200) _ hfk (ZO.2 (by omega)) (ZO.2 (by simp only;omega))).mono ?_
  rintro e w3 ⟨rfl,hb3⟩
  have R3:Bk w3 (w.heap.size+1+1) 37 #[.int .i64 0,.int .i64 0]:=Bk.later (by(repeat first|(with_reducible first|assumption|exact kN _ _ _ (by simp)|refine kA ?_ _|refine kD ?_|refine kW ?_ _|apply Bk.set'|refine kF ?_ (by simp<;>omega) _|refine kL ?_ ‹_›|refine kG ?_ ‹_› (by first|omega|simp<;>omega))|exact⟨by with_reducible rfl⟩|exact⟨by simp⟩)) hb3
  have d3:Below w.heap.size w w3:=by(with_reducible repeat first|exact bl0 _ _|refine blA ?_ _|(refine blS ?_ ?_ _;(simp<;>omega))|refine blD ?_|refine blN ?_ _|refine blF ?_ ‹_›)
  clear hb3 S2 R2 d2 p0 p1 p2 p3 p4 p5 p6 p7 p8 pf z2 zS
  go_wp2_with fail
  refine(Qqa ⟨s.f.x+(QQ (dirV s.d) 200).x,s.f.y+(QQ (dirV s.d) 200).y⟩ 2000 _ (by simp only;omega) (by omega) (by omega)).mono ?_
  rintro e w4 ⟨rfl,hb4⟩
  have R4:Bk w4 (w.heap.size+1+1) 37 #[.int .i64 0,.int .i64 0]:=Bk.later (by(repeat first|(with_reducible first|assumption|exact kN _ _ _ (by simp)|refine kA ?_ _|refine kD ?_|refine kW ?_ _|apply Bk.set'|refine kF ?_ (by simp<;>omega) _|refine kL ?_ ‹_›|refine kG ?_ ‹_› (by first|omega|simp<;>omega))|exact⟨by with_reducible rfl⟩|exact⟨by simp⟩)) hb4
  have F4:Bk w4 w3.heap.size 37 #[.int .i64 (s.f.x+(QQ (dirV s.d) 200).x),.int .i64 (s.f.y+(QQ (dirV s.d) 200).y)]:=Bk.later (by(repeat first|(with_reducible first|assumption|exact kN _ _ _ (by simp)|refine kA ?_ _|refine kD ?_|refine kW ?_ _|apply Bk.set'|refine kF ?_ (by simp<;>omega) _|refine kL ?_ ‹_›|refine kG ?_ ‹_› (by first|omega|simp<;>omega))|exact⟨by with_reducible rfl⟩|exact⟨by simp⟩)) hb4
  have d4:Below w.heap.size w w4:=by(with_reducible repeat first|exact bl0 _ _|refine blA ?_ _|(refine blS ?_ ?_ _;(simp<;>omega))|refine blD ?_|refine blN ?_ _|refine blF ?_ ‹_›)
  have z3:=R3.lt
  have z4:=F4.lt
  clear hb4 R3 d3
  obtain⟨⟨r0,r1⟩,rf⟩:=R4.c2
  obtain⟨⟨q0,q1⟩,qf⟩:=F4.c2
  go_wp2
  refine bodyPost_ret (v:= .agg #[.int .i64 (XB ⟨s.f.x+(QQ (dirV s.d) 200).x,s.f.y+(QQ (dirV s.d) 200).y⟩ 2000).x,.int .i64 (XB ⟨s.f.x+(QQ (dirV s.d) 200).x,s.f.y+(QQ (dirV s.d) 200).y⟩ 2000).y]) (by simp[results, Tryz.results114,go_sem, *]) rfl ⟨rfl,?_⟩
  (with_reducible repeat first|assumption|exact bl0 _ _|refine blA ?_ _|(refine blS ?_ ?_ _;(simp<;>omega))|refine blD ?_|refine blN ?_ _|refine blF ?_ ‹_›)
 ·have hp1b:(pw == 1)=false:=by simpa using hp1
  by_cases hp2:pw=2
  ·subst hp2
   have hr:Zx s.f s.d 2=QQ s.f 700:=by unfold Zx;rw[if_neg (by omega),if_pos rfl]
   rw[hr]
   clear hr
   have hs:=JN (Qe4 (k:=700) (by omega) (by omega) hf)
   go_enter Sq.func114, Tryz.ntmps114
   go_wp2_with fail
   refine(Qgd s.f 700 _ hfk (by omega) (by omega) (ZO.2 (by omega))).mono ?_
   rintro e w2 ⟨rfl,hb2⟩
   have R2:Bk w2 (w.heap.size+1+1) 37 #[.int .i64 0,.int .i64 0]:=Bk.later (by(repeat first|(with_reducible first|assumption|exact kN _ _ _ (by simp)|refine kA ?_ _|refine kD ?_|refine kW ?_ _|apply Bk.set'|refine kF ?_ (by simp<;>omega) _|refine kL ?_ ‹_›|refine kG ?_ ‹_› (by first|omega|simp<;>omega))|exact⟨by with_reducible rfl⟩|exact⟨by simp⟩)) hb2
   have d2:Below w.heap.size w w2:=by(with_reducible repeat first|exact bl0 _ _|refine blA ?_ _|(refine blS ?_ ?_ _;(simp<;>omega))|refine blD ?_|refine blN ?_ _|refine blF ?_ ‹_›)
   have z2:=R2.lt
   clear hb2
   obtain⟨⟨r0,r1⟩,rf⟩:=R2.c2
   go_wp2
   refine bodyPost_ret (v:= .agg #[.int .i64 (QQ s.f 700).x,.int .i64 (QQ s.f 700).y]) (by simp[results, Tryz.results114,go_sem, *]) rfl ⟨rfl,?_⟩
   (with_reducible repeat first|assumption|exact bl0 _ _|refine blA ?_ _|(refine blS ?_ ?_ _;(simp<;>omega))|refine blD ?_|refine blN ?_ _|refine blF ?_ ‹_›)
  ·have hp2b:(pw == 2)=false:=by simpa using hp2
   have hr:Zx s.f s.d pw=QQ s.f 950:=by unfold Zx;rw[if_neg hp1,if_neg hp2]
   rw[hr]
   clear hr
   have hs:=JN (Qe4 (k:=950) (by omega) (by omega) hf)
   go_enter Sq.func114, Tryz.ntmps114
   go_wp2_with fail
   refine(Qgd s.f 950 _ hfk (by omega) (by omega) (ZO.2 (by omega))).mono ?_
   rintro e w2 ⟨rfl,hb2⟩
   have R2:Bk w2 (w.heap.size+1+1) 37 #[.int .i64 0,.int .i64 0]:=Bk.later (by(repeat first|(with_reducible first|assumption|exact kN _ _ _ (by simp)|refine kA ?_ _|refine kD ?_|refine kW ?_ _|apply Bk.set'|refine kF ?_ (by simp<;>omega) _|refine kL ?_ ‹_›|refine kG ?_ ‹_› (by first|omega|simp<;>omega))|exact⟨by with_reducible rfl⟩|exact⟨by simp⟩)) hb2
   have d2:Below w.heap.size w w2:=by(with_reducible repeat first|exact bl0 _ _|refine blA ?_ _|(refine blS ?_ ?_ _;(simp<;>omega))|refine blD ?_|refine blN ?_ _|refine blF ?_ ‹_›)
   have z2:=R2.lt
   clear hb2
   obtain⟨⟨r0,r1⟩,rf⟩:=R2.c2
   go_wp2
   refine bodyPost_ret (v:= .agg #[.int .i64 (QQ s.f 950).x,.int .i64 (QQ s.f 950).y]) (by simp[results, Tryz.results114,go_sem, *]) rfl ⟨rfl,?_⟩
   (with_reducible repeat first|assumption|exact bl0 _ _|refine blA ?_ _|(refine blS ?_ ?_ _;(simp<;>omega))|refine blD ?_|refine blN ?_ _|refine blF ?_ ‹_›)
end Go.Proofs.YtgaimkihacljdaaGreat
/- The program's boxes. (Round B) -/
namespace Go.Proofs.YtgaimkihacljdaaGreat
open Go.ChangeShapes Go.WideShapes Go.ChangeAt Go.RowKit
theorem Qhv(b:Bx)(w:World):Calls Sq.prog 60 #[.agg #[.int .i64 b.lo.x,.int .i64 b.lo.y,.int .i64 b.hi.x,.int .i64 b.hi.y]] w fun e w'=>e= .returned (.agg #[.int .i64 b.lo.x,.int .i64 b.hi.x,.int .i64 b.lo.y,.int .i64 b.hi.y])∧Below w.heap.size w w':=by
 go_enter Sq.func60, Tryz.ntmps60
 go_wp2
 refine bodyPost_ret (v:= .agg #[.int .i64 b.lo.x,.int .i64 b.hi.x,.int .i64 b.lo.y,.int .i64 b.hi.y]) (by simp[results, Tryz.results60,go_sem, *]) rfl ⟨rfl,?_⟩;(with_reducible repeat first|exact bl0 _ _|refine blA ?_ _|(refine blS ?_ ?_ _;(simp<;>omega))|refine blD ?_|refine blN ?_ _|refine blF ?_ ‹_›)
def ordB(b:Bx):Prop:=b.lo.x≤b.hi.x∧b.lo.y≤b.hi.y
theorem QcP{b:Bx}(h:bxOk b=true):ordB b:=by
 simp only[bxOk,Bool.and_eq_true,decide_eq_true_eq] at h
 exact⟨h.2.2.1,h.2.2.2⟩
theorem QjN(b:Bx)(v:V2)(w:World)(ho:ordB b):Calls Sq.prog 79 #[.agg #[.int .i64 b.lo.x,.int .i64 b.lo.y,.int .i64 b.hi.x,.int .i64 b.hi.y],.agg #[.int .i64 v.x,.int .i64 v.y]] w fun e w'=>e= .returned (.agg #[.int .i64 (Xi b v).x,.int .i64 (Xi b v).y])∧Below w.heap.size w w':=by
 obtain⟨o1,o2⟩:=ho
 go_enter Sq.func79, Tryz.ntmps79
 go_wp2_with fail
 refine(Qhv b _).mono ?_
 rintro e w1 ⟨rfl,hb1⟩
 have B1:Bk w1 (w.heap.size+1) 37 #[.int .i64 v.x,.int .i64 v.y]:=Bk.later (by(repeat first|(with_reducible first|assumption|exact kN _ _ _ (by simp)|refine kA ?_ _|refine kD ?_|refine kW ?_ _|apply Bk.set'|refine kF ?_ (by simp<;>omega) _|refine kL ?_ ‹_›|refine kG ?_ ‹_› (by first|omega|simp<;>omega))|exact⟨by with_reducible rfl⟩|exact⟨by simp⟩)) hb1
 have R1:Bk w1 (w.heap.size+1+1) 37 #[.int .i64 0,.int .i64 0]:=Bk.later (by(repeat first|(with_reducible first|assumption|exact kN _ _ _ (by simp)|refine kA ?_ _|refine kD ?_|refine kW ?_ _|apply Bk.set'|refine kF ?_ (by simp<;>omega) _|refine kL ?_ ‹_›|refine kG ?_ ‹_› (by first|omega|simp<;>omega))|exact⟨by with_reducible rfl⟩|exact⟨by simp⟩)) hb1
 have d1:Below w.heap.size w w1:=by(with_reducible repeat first|exact bl0 _ _|refine blA ?_ _|(refine blS ?_ ?_ _;(simp<;>omega))|refine blD ?_|refine blN ?_ _|refine blF ?_ ‹_›)
 have z1:=B1.lt
 have z2:=R1.lt
 clear hb1
 obtain⟨⟨p0,p1⟩,pf⟩:=B1.c2
 obtain⟨⟨r0,r1⟩,rf⟩:=R1.c2
 go_wp2
 all_goals
  refine bodyPost_ret (v:= .agg #[.int .i64 (Xi b v).x,.int .i64 (Xi b v).y]) ?_ rfl ⟨rfl,?_⟩
  ·simp[results, Tryz.results79,go_sem,Xi,r0,r1,z2];omega
  · (with_reducible repeat first|assumption|exact bl0 _ _|refine blA ?_ _|(refine blS ?_ ?_ _;(simp<;>omega))|refine blD ?_|refine blN ?_ _|refine blF ?_ ‹_›)
theorem QvC(x y:Int)(w:World)(hx: -200000000≤x∧x≤200000000)(hy: -200000000≤y∧y≤200000000):Calls Sq.prog 80 #[.agg #[.int .i64 x,.int .i64 y]] w fun e w'=>e= .returned (.int .i64 (x*x+y*y))∧Below w.heap.size w w':=by
 obtain⟨a0,a1⟩:=QcB hx
 obtain⟨b0,b1⟩:=QcB hy
 obtain⟨x0,x1⟩:=hx
 obtain⟨y0,y1⟩:=hy
 go_enter Sq.func80, Tryz.ntmps80
 go_wp2
 go_ret
 exact⟨rfl,by(with_reducible repeat first|exact bl0 _ _|refine blA ?_ _|(refine blS ?_ ?_ _;(simp<;>omega))|refine blD ?_|refine blN ?_ _|refine blF ?_ ‹_›)⟩
theorem QfS(w:World)(a b c d:Int):(binOp .eql 37 (.agg #[.int .i64 a,.int .i64 b]) (.agg #[.int .i64 c,.int .i64 d])).run Sq.prog w= .ok (.bool (a == c && b == d)) w:=by
 have hu:Sq.prog.underlying 37=some (.struct (Sq.prog.fieldsOf 37)):=by kernel_rfl
 have hp:Sq.prog.stoodInHeld 37=false:=by kernel_rfl
 have hi:Sq.prog.underlying 3=some (.int .i64):=by kernel_rfl
 have hm:((Sq.prog.fieldsOf 37).toList.map fun f=>(f.name,f.type,f.offset))= [("X",3,0),("Y",3,1)]:=by kernel_rfl
 rw[run_eql_struct,run_equalIn_struct w _ _ _ _ hu hp]
 clear hu hp
 revert hm
 generalize (Sq.prog.fieldsOf 37).toList=fs
 intro hm
 obtain⟨f,fs1,rfl,hf,hm⟩:=List.map_eq_cons_iff.1 hm
 obtain⟨g,fs2,rfl,hg,hm⟩:=List.map_eq_cons_iff.1 hm
 obtain rfl:=List.map_eq_nil_iff.1 hm
 simp only[Prod.mk.injEq] at hf hg
 obtain⟨f1,f2,f3⟩:=hf
 obtain⟨g1,g2,g3⟩:=hg
 simp[Op.eqFields,part,go_sem,hi,f1,f2,f3,g1,g2,g3]
 by_cases h1:a=c<;>by_cases h2:b=d<;>simp[h1,h2]
theorem Qs9{b:Bx}{v:V2}(ho:ordB b):((Xi b v).x == v.x && (Xi b v).y == v.y)=hasV b v:=by
 obtain⟨o1,o2⟩:=ho
 rw[Bool.eq_iff_iff]
 simp only[hasV,inR,Xi,Bool.and_eq_true,beq_iff_eq,decide_eq_true_eq]
 omega
theorem Qja{W w':World}{g g':Nat}{t t':TypeId}{x0 x1 x2 x3 y0 y1:Value}(hA:Bk W g t #[x0,x1,x2,x3])(hB:Bk W g' t' #[y0,y1])(h:Below W.heap.size W w'):
 (w'.cell? ⟨g,0,none⟩=some x0∧w'.cell? ⟨g,1,none⟩=some x1∧w'.cell? ⟨g,2,none⟩=some x2∧w'.cell? ⟨g,3,none⟩=some x3)∧w'.cell? ⟨g',0,none⟩=some y0∧w'.cell? ⟨g',1,none⟩=some y1:=
 ⟨(hA.later h).c4.1,(hB.later h).c2.1⟩
set_option maxHeartbeats 2000000 in
theorem Qes(b:Bx)(v:V2)(w:World)(ho:ordB b):Calls Sq.prog 115 #[.agg #[.int .i64 b.lo.x,.int .i64 b.lo.y,.int .i64 b.hi.x,.int .i64 b.hi.y],.agg #[.int .i64 v.x,.int .i64 v.y]] w fun e w'=>e= .returned (.bool (hasV b v))∧Below w.heap.size w w':=by
 have hE:=Qs9 (v:=v) ho
 go_enter Sq.func115, Tryz.ntmps115
 go_wp2
 refine Xq (fun W=>Bk W w.heap.size 40 #[.int .i64 b.lo.x,.int .i64 b.lo.y,.int .i64 b.hi.x,.int .i64 b.hi.y]∧Bk W (w.heap.size+1) 37 #[.int .i64 v.x,.int .i64 v.y]∧Below w.heap.size w W) ⟨by(repeat first|(with_reducible first|assumption|exact kN _ _ _ (by simp)|refine kA ?_ _|refine kD ?_|refine kW ?_ _|apply Bk.set'|refine kF ?_ (by simp<;>omega) _|refine kL ?_ ‹_›|refine kG ?_ ‹_› (by first|omega|simp<;>omega))|exact⟨by with_reducible rfl⟩|exact⟨by simp⟩),by(repeat first|(with_reducible first|assumption|exact kN _ _ _ (by simp)|refine kA ?_ _|refine kD ?_|refine kW ?_ _|apply Bk.set'|refine kF ?_ (by simp<;>omega) _|refine kL ?_ ‹_›|refine kG ?_ ‹_› (by first|omega|simp<;>omega))|exact⟨by with_reducible rfl⟩|exact⟨by simp⟩),by(with_reducible repeat first|exact bl0 _ _|refine blA ?_ _|(refine blS ?_ ?_ _;(simp<;>omega))|refine blD ?_|refine blN ?_ _|refine blF ?_ ‹_›)⟩ ?_
 rintro W ⟨hA,hB,hd⟩
 have zA:=hA.lt
 have zB:=hB.lt
 obtain⟨⟨a0,a1,a2,a3⟩,af⟩:=hA.c4
 obtain⟨⟨p0,p1⟩,pf⟩:=hB.c2
 have hq1:=QfS
 go_region_held3 (fun w'=>(w'.cell? ⟨w.heap.size,0,none⟩=some (.int .i64 b.lo.x)∧w'.cell? ⟨w.heap.size,1,none⟩=some (.int .i64 b.lo.y)∧w'.cell? ⟨w.heap.size,2,none⟩=some (.int .i64 b.hi.x)∧w'.cell? ⟨w.heap.size,3,none⟩=some (.int .i64 b.hi.y))∧w'.cell? ⟨w.heap.size+1,0,none⟩=some (.int .i64 v.x)∧w'.cell? ⟨w.heap.size+1,1,none⟩=some (.int .i64 v.y))
  (first|(with_reducible exact Qja hA hB (Qw (Below.refl _ _)))|(with_reducible exact Qja hA hB (Qa (Qw (Below.refl _ _)) hb1)))
  (first
  |(go_at_call 79;refine(QjN b v _ ho).mono ?_;rintro e w1 ⟨rfl,hb1⟩))
 all_goals
  go_wp2
  go_ret
  exact⟨by first|exact Qs hE|rfl,by(with_reducible repeat first|assumption|exact bl0 _ _|refine blA ?_ _|(refine blS ?_ ?_ _;(simp<;>omega))|refine blD ?_|refine blN ?_ _|refine blF ?_ ‹_›)⟩
theorem Qwe(b:Bx)(v:V2)(w:World)(ho:ordB b)(hb:bdBx b)(hv:bdV v):Calls Sq.prog 62 #[.agg #[.int .i64 b.lo.x,.int .i64 b.lo.y,.int .i64 b.hi.x,.int .i64 b.hi.y],.agg #[.int .i64 v.x,.int .i64 v.y],.int .i64 500] w fun e w'=>e= .returned (.bool (Qag b v 500))∧Below w.heap.size w w':=by
 have hnb:=QjM hb hv
 unfold bdV at hv hnb
 obtain⟨v1,v2,v3,v4⟩:=hv
 obtain⟨n1,n2,n3,n4⟩:=hnb
 go_enter Sq.func62, Tryz.ntmps62
 go_wp2_with fail
 refine(QjN b v _ ho).mono ?_
 rintro e w1 ⟨rfl,hb1⟩
 obtain⟨hc1,hf1⟩:=Qy hb1;have hy1:w.heap.size<w1.heap.size:=(by have:=hb1.size;first|omega|(simp at this;omega));have hz1:w.heap.size+1<w1.heap.size:=(by have:=hb1.size;first|omega|(simp at this;omega))
 go_wp2_with fail
 refine(QvC (v.x - (Xi b v).x) (v.y - (Xi b v).y) _ (by omega) (by omega)).mono ?_
 rintro e w2 ⟨rfl,hb2⟩
 go_wp2
 go_ret
 refine⟨Qs (by simp[Qag]),?_⟩;(with_reducible repeat first|exact bl0 _ _|refine blA ?_ _|(refine blS ?_ ?_ _;(simp<;>omega))|refine blD ?_|refine blN ?_ _|refine blF ?_ ‹_›)
end Go.Proofs.YtgaimkihacljdaaGreat
/- The program's BoxValid, its linked walls, free. (Round B) -/
namespace Go.Proofs.YtgaimkihacljdaaGreat
open Go.ChangeShapes Go.WideShapes Go.ChangeAt Go.RowKit Go.Shelf
attribute [local go_sem] Oper.semAt_some
theorem QhC{b:Bx}(h: ¬(b.lo.x≤b.hi.x∧b.lo.y≤b.hi.y)):bxOk b=false:=by
 rw[Bool.eq_false_iff]
 intro h2
 exact h (QcP h2)
theorem Qm7{b:Bx}(h:b.lo.x≤b.hi.x∧b.lo.y≤b.hi.y):bxOk b=(vOk b.lo && vOk b.hi):=by
 simp[bxOk,h.1,h.2]
theorem QmO(w:World)(a b c d:Int):(Instr.index 96 (.agg #[.int .i64 a,.int .i64 b,.int .i64 c,.int .i64 d]) (.int .i64 0)).run Sq.prog w= .ok (.agg #[.int .i64 a,.int .i64 b]) w:=by kernel_rfl
theorem QmP(w:World)(a b c d:Int):(Instr.index 96 (.agg #[.int .i64 a,.int .i64 b,.int .i64 c,.int .i64 d]) (.int .i64 1)).run Sq.prog w= .ok (.agg #[.int .i64 c,.int .i64 d]) w:=by kernel_rfl
set_option maxRecDepth 100000 in
set_option maxHeartbeats 2000000 in
theorem QiL(b:Bx)(w:World):Calls Sq.prog 41 #[.agg #[.int .i64 b.lo.x,.int .i64 b.lo.y,.int .i64 b.hi.x,.int .i64 b.hi.y]] w fun e w'=>e= .returned (.bool (bxOk b))∧Below w.heap.size w w':=by
 have hx0:=QmO
 have hx1:=QmP
 go_enter Sq.func41, Tryz.ntmps41
 go_wp2_with fail
 refine(Qhv b _).mono ?_
 rintro e w1 ⟨rfl,hb1⟩
 have A1:Bk w1 w.heap.size 40 #[.int .i64 b.lo.x,.int .i64 b.lo.y,.int .i64 b.hi.x,.int .i64 b.hi.y]:=Bk.later (by(repeat first|(with_reducible first|assumption|exact kN _ _ _ (by simp)|refine kA ?_ _|refine kD ?_|refine kW ?_ _|apply Bk.set'|refine kF ?_ (by simp<;>omega) _|refine kL ?_ ‹_›|refine kG ?_ ‹_› (by first|omega|simp<;>omega))|exact⟨by with_reducible rfl⟩|exact⟨by simp⟩)) hb1
 have d1:Below w.heap.size w w1:=by(with_reducible repeat first|exact bl0 _ _|refine blA ?_ _|(refine blS ?_ ?_ _;(simp<;>omega))|refine blD ?_|refine blN ?_ _|refine blF ?_ ‹_›)
 clear hb1
 have z1:=A1.lt
 by_cases h1:b.lo.x≤b.hi.x
 ·have h1': ¬b.hi.x<b.lo.x:=by omega
  by_cases h2:b.lo.y≤b.hi.y
  ·have h2': ¬b.hi.y<b.lo.y:=by omega
   have HB:=Lib.hid (Qm7 ⟨h1,h2⟩)
   obtain⟨⟨a0,a1,a2,a3⟩,af⟩:=A1.c4
   go_wp2
   refine wp_loop_rounds 3 ?_
   rw[rounds_succ]
   go_wp2
   rw[rounds_succ]
   go_wp2
   rw[rounds_succ]
   cases hv:vOk b.lo
   ·go_wp2_with (go_at_call 37;refine(JG b.lo _).mono ?_;rw[hv];rintro e w2 ⟨rfl,hb2⟩)
    go_ret
    exact⟨Qs (by rw[HB.out,hv];rfl),by(with_reducible repeat first|assumption|exact bl0 _ _|refine blA ?_ _|(refine blS ?_ ?_ _;(simp<;>omega))|refine blD ?_|refine blN ?_ _|refine blF ?_ ‹_›)⟩
   ·go_wp2_with fail
    refine(JG b.lo _).mono ?_
    rw[hv]
    rintro e w2 ⟨rfl,hb2⟩
    have A2:Bk w2 w.heap.size 40 #[.int .i64 b.lo.x,.int .i64 b.lo.y,.int .i64 b.hi.x,.int .i64 b.hi.y]:=Bk.later (by(repeat first|(with_reducible first|assumption|exact kN _ _ _ (by simp)|refine kA ?_ _|refine kD ?_|refine kW ?_ _|apply Bk.set'|refine kF ?_ (by simp<;>omega) _|refine kL ?_ ‹_›|refine kG ?_ ‹_› (by first|omega|simp<;>omega))|exact⟨by with_reducible rfl⟩|exact⟨by simp⟩)) hb2
    obtain⟨⟨p0,p1,p2,p3⟩,pf⟩:=A2.c4
    go_wp2_with (go_at_call 37;refine(JG b.hi _).mono ?_;rintro e w3 ⟨rfl,hb3⟩)
    go_ret
    exact⟨Qs (by rw[HB.out,hv];simp),by(with_reducible repeat first|assumption|exact bl0 _ _|refine blA ?_ _|(refine blS ?_ ?_ _;(simp<;>omega))|refine blD ?_|refine blN ?_ _|refine blF ?_ ‹_›)⟩
  ·have HB:=Lib.hid (QhC (b:=b) (fun h=>h2 h.2))
   have h2':b.hi.y<b.lo.y:=by omega
   obtain⟨⟨a0,a1,a2,a3⟩,af⟩:=A1.c4
   go_wp2
   refine wp_loop_rounds 3 ?_
   rw[rounds_succ]
   go_wp2
   rw[rounds_succ]
   go_wp2
   go_ret
   exact⟨Qs (by rw[HB.out]),by(with_reducible repeat first|assumption|exact bl0 _ _|refine blA ?_ _|(refine blS ?_ ?_ _;(simp<;>omega))|refine blD ?_|refine blN ?_ _|refine blF ?_ ‹_›)⟩
 ·have HB:=Lib.hid (QhC (b:=b) (fun h=>h1 h.1))
  have h1':b.hi.x<b.lo.x:=by omega
  obtain⟨⟨a0,a1,a2,a3⟩,af⟩:=A1.c4
  go_wp2
  refine wp_loop_rounds 3 ?_
  rw[rounds_succ]
  go_wp2
  go_ret
  exact⟨Qs (by rw[HB.out]),by(with_reducible repeat first|assumption|exact bl0 _ _|refine blA ?_ _|(refine blS ?_ ?_ _;(simp<;>omega))|refine blD ?_|refine blN ?_ _|refine blF ?_ ‹_›)⟩
/-! ### linked: the walls, the last one first -/
def bw(l:List Bx)(k:Nat):Bx:=(l[l.length - 1 - k]?).getD ⟨⟨0,0⟩,⟨0,0⟩⟩
theorem QhB{l:List Bx}{k m:Nat}{x:Bx}(hm:l.length - 1 - k=m)(hx:l[m]? =some x):bw l k=x:=by unfold bw;rw[hm,hx];rfl
set_option maxRecDepth 100000 in
set_option maxHeartbeats 2000000 in
theorem QmQ(A:Option Addr)(n c:Nat)(l:List Bx)(w0:World)(hs:Sl w0 4 Qc A n l)(hn:(n:Nat)≤9223372036854775807)(g:Nat)(L:Nat)(J Jx:Nat→World→Prop)(W:World)
 (hY: ∀k W1,k<n→J k W1→YieldAt Fence.wide 1 Sq.prog L #[.int .i64 ((n:Int)- 1 - k),.agg #[.int .i64 (bw l k).lo.x,.int .i64 (bw l k).lo.y,.int .i64 (bw l k).hi.x,.int .i64 (bw l k).hi.y]] W1 fun e W'=>(e= .returned (.bool true)∧J (k+1) W'∧(W'.heap[g]? =W1.heap[g]?∧Below w0.heap.size W1 W'))∨(e= .returned (.bool false)∧Jx k W'))
 (hg:Bk W g 38 #[.slice A n c])(hb:Below w0.heap.size w0 W)(h0:J 0 W):
 CallsIn Fence.wide 2 Sq.prog 108 #[.func (.yield L) #[] #[],.pointer (some ⟨g,0,none⟩)] W fun e W'=>(∃v,e= .returned v)∧(J n W'∨∃k,k<n∧Jx k W'):=by
 obtain⟨g0,gf⟩:=hg.c1
 refine callsIn_of_wp Sq.func108 rfl trivial ?_ rfl
 simp only[Tryz.ntmps108,List.size_toArray,List.length_cons,List.length_nil,Nat.reduceAdd,Nat.reduceSub,Array.replicate_succ,Array.replicate_zero,List.push_toArray,List.append_toArray,List.nil_append,List.cons_append]
 gi_wp2
 clear g0 gf
 gi_loopw [3] (fun i wr=>∃k:Nat,k≤n∧i= .int .i64 ((n:Int)- 1 - k)∧J k wr∧Bk wr g 38 #[.slice A n c]∧Below w0.heap.size w0 wr) (fun i _=>(intOf i+1).toNat)
 case atStart=>exact⟨0,Nat.zero_le _,by simp,h0,hg,hb⟩
 case round=>
  obtain⟨k,hk,hi,hj,hG,hB⟩:=hrel
  obtain⟨g0,gf⟩:=hG.c1
  by_cases hlt:k<n
  ·obtain⟨m,hm⟩: ∃m:Nat,n - 1 - k=m:=⟨_,rfl⟩
   have em:(n:Int)- 1 - k=(m:Int):=by omega
   rw[em] at hi
   subst hi
   obtain⟨b,off,x,rfl,hbl,hx,hc⟩:=(hs.below hB).at_ (show m<n by omega)
   have q0:wr.cell? ⟨b,off+m*4,none⟩=some (.int .i64 x.lo.x):=hc 0 _ rfl
   have q1:wr.cell? ⟨b,off+m*4+1,none⟩=some (.int .i64 x.lo.y):=hc 1 _ rfl
   have q2:wr.cell? ⟨b,off+m*4+2,none⟩=some (.int .i64 x.hi.x):=hc 2 _ rfl
   have q3:wr.cell? ⟨b,off+m*4+3,none⟩=some (.int .i64 x.hi.y):=hc 3 _ rfl
   have hbw:bw l k=x:=QhB (by rw[hs.len];exact hm) hx
   have hYk:=hY k wr hlt hj
   rw[em,hbw] at hYk
   obtain⟨fn,tmps,assign,body,hy,hR⟩:=hYk
   have hmn:(m:Int)<n:=by omega
   have HM:=Lib.hid hm
   have EM:=Lib.hid em
   clear hY hs hc hx hbw hm em
   gi_wp2
   refine hR.mono ?_
   clear hR hy
   rintro e W' (⟨rfl,hj',hk1,hk2⟩|⟨rfl,hjx⟩)
   ·gi_wp2
    go_roundw
    case rel=>exact⟨k+1,by omega,by have:=EM.out;congr 1;omega,hj',hk1.trans hG,hB.trans hk2⟩
    case measure=>simp[intOf]
   ·gi_wp2
    refine bodyPost_ret (results_none rfl _ _ _) rfl ?_
    exact⟨⟨_,rfl⟩,.inr ⟨k,hlt,hjx⟩⟩
  ·have hkn:k=n:=by omega
   subst hkn
   have e1:(k:Int)- 1 - k= -1:=by omega
   rw[e1] at hi
   subst hi
   gi_wp2
   go_end0
   exact⟨⟨_,rfl⟩,.inl hj⟩
def Lw(w:World)(B:Nat):Value→List Bx→Nat→Prop
 |v,[],_=>v= .pointer none
 |v,b :: bs,u=>∃g v',v= .pointer (some ⟨g,0,none⟩)∧B≤g∧g<u∧Bk w g 101 #[.int .i64 b.lo.x,.int .i64 b.lo.y,.int .i64 b.hi.x,.int .i64 b.hi.y,v']∧Lw w B v' bs g
theorem Lw.same{w w':World}{B:Nat}: ∀{l:List Bx} {v:Value} {u:Nat},Lw w B v l u→(∀g,B≤g→g<u→w'.heap[g]? =w.heap[g]?)→Lw w' B v l u
 |[],_,_,h,_=>h
 |_ :: _,_,_,⟨g,v',e,h1,h2,h3,h4⟩,hs=>⟨g,v',e,h1,h2,(hs g h1 h2).trans h3,h4.same fun k k1 k2=>hs k k1 (by omega)⟩
theorem Lw.mono{w:World}{B u u':Nat}(hu:u≤u'): ∀{l:List Bx} {v:Value},Lw w B v l u→Lw w B v l u'
 |[],_,h=>h
 |_ :: _,_,⟨g,v',e,h1,h2,h3,h4⟩=>⟨g,v',e,h1,by omega,h3,h4⟩
theorem Lw.low{w:World}{B B':Nat}(hB:B'≤B): ∀{l:List Bx} {v:Value} {u:Nat},Lw w B v l u→Lw w B' v l u
 |[],_,_,h=>h
 |_ :: _,_,_,⟨g,v',e,h1,h2,h3,h4⟩=>⟨g,v',e,by omega,h2,h3,h4.low hB⟩
theorem Lw.below{w w':World}{B:Nat}{l:List Bx}{v:Value}{u:Nat}(h:Lw w B v l u)(hb:Below w.heap.size w w')(hu:u≤w.heap.size):Lw w' B v l u:=h.same fun g _ h2=>hb.block g (by omega)
theorem Lw.ptr{w:World}{B:Nat}{l:List Bx}{v:Value}{u:Nat}(h:Lw w B v l u): ∃p,v= .pointer p:=by
 cases l with
 |nil=>exact⟨none,h⟩
 |cons b bs=>obtain⟨g,v',e,_⟩:=h;exact⟨_,e⟩
theorem QpX(A:Option Addr)(n c:Nat)(w:World):Calls Sq.prog 78 #[.slice A n c] w fun e w'=>e= .returned (.func (.func 108) #[] #[.pointer (some ⟨w.heap.size,0,none⟩)])∧w'=w.alloc (.cells #[.slice A n c] 38):=by
 go_enter Sq.func78, Tryz.ntmps78
 go_wp2
 go_ret
 exact⟨rfl,rfl⟩
def lnkI(l:List Bx)(s B:Nat)(w:World)(k:Nat)(A:World):Prop:=k≤l.length∧Below w.heap.size w A∧∃p,Bk A s 98 #[.pointer p]∧Lw A B (.pointer p) (l.drop (l.length - k)) A.heap.size
theorem QoH{l:List Bx}{k:Nat}(hk:k<l.length):l.drop (l.length - (k+1))=bw l k :: l.drop (l.length - k):=by
 have e:l.length - (k+1)=l.length - 1 - k:=by omega
 rw[e,List.drop_eq_getElem_cons (by omega),show l.length - 1 - k+1=l.length - k by omega,QhB rfl (List.getElem?_eq_getElem _)]
set_option maxRecDepth 100000 in
set_option maxHeartbeats 2000000 in
theorem Qp6(A:Option Addr)(c:Nat)(l:List Bx)(w:World)(hs:Sl w 4 Qc A l.length l)(hn:(l.length:Nat)≤9223372036854775807):
 Calls Sq.prog 61 #[.slice A l.length c] w fun e w'=>∃p,e= .returned (.pointer p)∧Lw w' w.heap.size (.pointer p) l w'.heap.size∧Below w.heap.size w w':=by
 refine(callsIn_wide (n:=3)).1 ?_
 refine callsIn_of_wp_marks Sq.func61 rfl trivial ?_ rfl
 simp only[Tryz.ntmps61,List.size_toArray,List.length_cons,List.length_nil,Nat.reduceAdd,Nat.reduceSub,Array.replicate_succ,Array.replicate_zero,List.push_toArray,List.append_toArray,List.nil_append,List.cons_append]
 gi_wp2_with (refine⟨trivial,?_⟩;gi_at_call 78;refine(callsIn_wide.2 (QpX _ _ _ _)).mono ?_;rintro e w' ⟨rfl,rfl⟩)
 obtain⟨W,hW⟩: ∃W,(w.alloc (.cells #[.pointer none] 98)).alloc (.cells #[.slice A l.length c] 38)=W:=⟨_,rfl⟩
 have hF:Bk W w.heap.size 98 #[.pointer none]:=by rw[←hW];(repeat first|(with_reducible first|assumption|exact kN _ _ _ (by simp)|refine kA ?_ _|refine kD ?_|refine kW ?_ _|apply Bk.set'|refine kF ?_ (by simp<;>omega) _|refine kL ?_ ‹_›|refine kG ?_ ‹_› (by first|omega|simp<;>omega))|exact⟨by with_reducible rfl⟩|exact⟨by simp⟩)
 have hG:Bk W (w.heap.size+1) 38 #[.slice A l.length c]:=by rw[←hW];(repeat first|(with_reducible first|assumption|exact kN _ _ _ (by simp)|refine kA ?_ _|refine kD ?_|refine kW ?_ _|apply Bk.set'|refine kF ?_ (by simp<;>omega) _|refine kL ?_ ‹_›|refine kG ?_ ‹_› (by first|omega|simp<;>omega))|exact⟨by with_reducible rfl⟩|exact⟨by simp⟩)
 have hB:Below w.heap.size w W:=by rw[←hW];(with_reducible repeat first|exact bl0 _ _|refine blA ?_ _|(refine blS ?_ ?_ _;(simp<;>omega))|refine blD ?_|refine blN ?_ _|refine blF ?_ ‹_›)
 have hz:W.heap.size=w.heap.size+2:=by rw[←hW];simp
 rw[hW]
 clear hW
 refine Ql0 (gf:=108) (lb:=#[.pointer (some ⟨w.heap.size+1,0,none⟩)]) rfl (enters_of Sq.func108 (by kernel_rfl) rfl) (enc:=fun k=>#[.int .i64 ((l.length:Int)- 1 - k),.agg #[.int .i64 (bw l k).lo.x,.int .i64 (bw l k).lo.y,.int .i64 (bw l k).hi.x,.int .i64 (bw l k).hi.y]]) (N:=l.length)
  (Kp:=fun _ A A'=>A'.heap[w.heap.size+1]? =A.heap[w.heap.size+1]?∧Below w.heap.size A A') (Ab:=fun _ A A'=>A'=A)
  (fun L J Jx W' hW' hJ hY h0=>by simpa using QmQ A l.length c l w hs hn (w.heap.size+1) L J Jx W' hY (hG.later hW') (hB.trans (hW'.mono (by omega))) h0)
  (fun B X Y _ e=>by rw[e];exact Below.refl _ _) (fun B X Y Z h k=>⟨k.1.trans h.1,h.2.trans k.2⟩) (fun X o=>⟨World.putObj_heap_other (by omega),QcO (by omega) o⟩) (fun k=>rfl)
  (lnkI l w.heap.size (w.heap.size+4) w) (fun _ _=>False) ?hI ?hIo ?hIa ?hIxo ?h0
  (fun k a' A'=>∃B,w.heap.size+4≤B∧Bk A' B 40 #[.int .i64 (bw l k).lo.x,.int .i64 (bw l k).lo.y,.int .i64 (bw l k).hi.x,.int .i64 (bw l k).hi.y]∧a'={ tmps:=#[.slice A l.length c,undef,.pointer none,.pointer (some ⟨w.heap.size,0,none⟩),undef,.pointer (some ⟨B,0,none⟩),.slice A l.length c,.func (.func 108) #[] #[.pointer (some ⟨w.heap.size+1,0,none⟩)],.int .i64 ((l.length:Int)- 1 - k),.agg #[.int .i64 (bw l k).lo.x,.int .i64 (bw l k).lo.y,.int .i64 (bw l k).hi.x,.int .i64 (bw l k).hi.y],undef,undef,undef,undef,undef],defers:=[]}) ?hAxo ?assign ?body ?done ?stop
 case hI=>rintro k X Y h e;subst e;exact h
 case hIo=>
  rintro k X b o hb1 hb2 ⟨h1,h2,p,h3,h4⟩
  exact⟨h1,h2.trans (QcO (by omega) o),p,h3.putObj (by omega) o,by rw[World.putObj_size];exact h4.same fun g h5 _=>World.putObj_heap_other (by omega)⟩
 case hIa=>
  rintro X o ⟨h1,h2,p,h3,h4⟩
  exact⟨h1,Qf h2 o,p,h3.alloc o,(h4.below (Qf (Below.refl _ _) o) (Nat.le_refl _)).mono (by simp)⟩
 case hIxo=>rintro k X b o _ _ h;exact h
 case h0=>exact⟨Nat.zero_le _,hB,none,hF,by rw[Nat.sub_zero,List.drop_length];rfl⟩
 case hAxo=>
  rintro k a' X b o hb1 hb2 ⟨B,hB,hv,rfl⟩
  exact⟨B,hB,hv.putObj (by omega) o,rfl⟩
 case assign=>
  rintro L k V K hzV h hK
  gi_wp2
  obtain⟨h1,h2,p,h3,h4⟩:=h
  exact hK _ _ ((KeepsOthers.alloc _ _).from _) ⟨Below.heap_alloc _ _ _ (by omega),(Below.refl _ V).alloc (by omega) _⟩ ⟨h1,Qf h2 _,p,h3.alloc _,(h4.below (Qf (Below.refl _ _) _) (Nat.le_refl _)).mono (by simp)⟩ ⟨V.heap.size,by omega,Bk.new _ _ _ rfl,rfl⟩
 case body=>
  rintro L k a' V hzV ⟨h1,h2,p,h3,h4⟩ ⟨B,hB,hv,rfl⟩ hk
  have z3:=h3.lt
  have zB:=hv.lt
  obtain⟨d0,df⟩:=h3.c1
  obtain⟨⟨x0,x1,x2,x3⟩,xf⟩:=hv.c4
  gi_wp2
  refine⟨((KeepsOthers.setCell _ _ _).trans (KeepsOthers.alloc _ _)).from _,⟨?_,?_⟩,by omega,?_,some ⟨V.heap.size,0,none⟩,?_,?_⟩
  ·exact(Below.heap_alloc _ _ _ (by simp;omega)).trans (Below.heap_setCell _ _ _ _ (by simp))
  ·exact((Below.refl _ V).setCell (p:=⟨w.heap.size,0,none⟩) (Nat.le_refl _) _).alloc (by simp;omega) _
  ·exact Qf (h2.setCell (p:=⟨w.heap.size,0,none⟩) (Nat.le_refl _) _) _
  ·exact(h3.set' ⟨by simp⟩).alloc _
  ·rw[QoH hk]
   refine⟨V.heap.size,.pointer p,rfl,by omega,by simp,Bk.new _ _ _ (by simp),?_⟩
   refine h4.same fun g h5 h6=>?_
   exact(Below.heap_alloc _ _ _ (by simpa using h6)).trans (Below.heap_setCell _ _ _ _ (by simp;omega))
 case done=>
  rintro V hzV ⟨h1,h2,p,h3,h4⟩ hK
  obtain⟨d0,df⟩:=h3.c1
  gi_wp2
  refine⟨by simp,.inl ⟨_,_,rfl,run_takeDeferred hK,?_⟩⟩
  refine⟨_,(by simp[results, Tryz.results61,go_sem]),p,rfl,?_,h2.trans (QcO (by omega) _)⟩
  rw[Nat.sub_self,List.drop_zero] at h4
  rw[World.putObj_size]
  exact(h4.same fun g h5 _=>World.putObj_heap_other (by omega)).low (by omega)
 case stop=>rintro k V _ _ h _;exact h.elim
theorem Qpx{l:Lev}{v:V2}{dn rest:List Bx}{b:Bx}(e:l.walls=dn++b :: rest)(h:Qag b v 500=true):QY l v=false:=by
 unfold QY
 rw[e,List.all_append,List.all_cons,h]
 simp
theorem Qpy{l:Lev}{v:V2}(h: ∀b∈l.walls,Qag b v 500=false):QY l v=true:=by
 unfold QY
 rw[List.all_eq_true]
 intro b hb
 rw[h b hb]
 rfl
set_option maxRecDepth 100000 in
set_option maxHeartbeats 2000000 in
theorem JF(l:Lev)(v:V2)(A A':Option Addr)(c c':Nat)(w:World)(h:Sl w 4 Qc A l.walls.length l.walls)(hn:(l.walls.length:Nat)≤9223372036854775807)(hw:XZ l.walls=true)(hv:bdV v):
 Calls Sq.prog 42 #[.agg #[.int .i64 l.id,.int .i64 l.ticks,.int .i64 l.start.x,.int .i64 l.start.y,.slice A l.walls.length c,.slice A' l.gates.length c',.int .i64 l.fin.lo.x,.int .i64 l.fin.lo.y,.int .i64 l.fin.hi.x,.int .i64 l.fin.hi.y,.int .i64 l.bans],.agg #[.int .i64 v.x,.int .i64 v.y]] w fun e w'=>e= .returned (.bool (QY l v))∧Below w.heap.size w w':=by
 go_enter Sq.func42, Tryz.ntmps42
 go_wp2_with fail
 refine(Qp6 A c l.walls _ (h.below (by(with_reducible repeat first|exact bl0 _ _|refine blA ?_ _|(refine blS ?_ ?_ _;(simp<;>omega))|refine blD ?_|refine blN ?_ _|refine blF ?_ ‹_›))) hn).mono ?_
 rintro e w1 ⟨p,rfl,hL1,hb1⟩
 have V1:Bk w1 (w.heap.size+1) 37 #[.int .i64 v.x,.int .i64 v.y]:=Bk.later (by(repeat first|(with_reducible first|assumption|exact kN _ _ _ (by simp)|refine kA ?_ _|refine kD ?_|refine kW ?_ _|apply Bk.set'|refine kF ?_ (by simp<;>omega) _|refine kL ?_ ‹_›|refine kG ?_ ‹_› (by first|omega|simp<;>omega))|exact⟨by with_reducible rfl⟩|exact⟨by simp⟩)) hb1
 have d1:Below w.heap.size w w1:=by(with_reducible repeat first|exact bl0 _ _|refine blA ?_ _|(refine blS ?_ ?_ _;(simp<;>omega))|refine blD ?_|refine blN ?_ _|refine blF ?_ ‹_›)
 clear hb1
 go_wp2
 go_loopg [5] l.walls.length (fun k q wr=>∃(dn rest:List Bx) (B u:Nat),l.walls=dn++rest∧rest.length=k∧(∀b∈dn,Qag b v 500=false)∧Lw wr B q rest u∧u≤wr.heap.size∧Bk wr (w.heap.size+1) 37 #[.int .i64 v.x,.int .i64 v.y]∧Below w.heap.size w wr)
 case atStart=>exact⟨[],l.walls,_,_,rfl,rfl,(fun b hb=>by cases hb),hL1,Nat.le_refl _,V1,d1⟩
 case round=>
  obtain⟨dn,rest,B,u,he,hk,hno,hL,hu,hV,hd⟩:=hrel
  cases rest with
  |nil=>
   obtain rfl:=hL
   rw[List.append_nil] at he
   have HF:=Lib.hid (Qpy (l:=l) (v:=v) (fun b hb=>hno b (he ▸ hb)))
   clear he hno
   go_wp2
   go_ret
   exact⟨Qs HF.out.symm,by(with_reducible repeat first|assumption|exact bl0 _ _|refine blA ?_ _|(refine blS ?_ ?_ _;(simp<;>omega))|refine blD ?_|refine blN ?_ _|refine blF ?_ ‹_›)⟩
  |cons b bs=>
   obtain⟨g,v',rfl,hBg,hgu,hG,hL2⟩:=hL
   have hbm:b∈l.walls:=by rw[he];simp
   have hbk:bxOk b=true:=List.all_eq_true.1 hw b hbm
   have zV:=hV.lt
   have zG:=hG.lt
   obtain⟨p',rfl⟩:=hL2.ptr
   obtain⟨g0,g1,g2,g3,g4⟩:wr.cell? ⟨g,0,none⟩=some (.int .i64 b.lo.x)∧wr.cell? ⟨g,1,none⟩=some (.int .i64 b.lo.y)∧wr.cell? ⟨g,2,none⟩=some (.int .i64 b.hi.x)∧wr.cell? ⟨g,3,none⟩=some (.int .i64 b.hi.y)∧wr.cell? ⟨g,4,none⟩=some (.pointer p'):=⟨hG.cell 0,hG.cell 1,hG.cell 2,hG.cell 3,hG.cell 4⟩
   obtain⟨⟨p0,p1⟩,pf⟩:=hV.c2
   have HE:=Lib.hid he
   have HNo:=Lib.hid hno
   clear he hno hbm
   go_wp2
   go_still_tail 5,(by kernel_rfl)
   change wpList _ _ _ _ _ wr.drew
   go_wp2_with fail
   refine(Qwe b v _ (QcP hbk) (Qfx hbk) hv).mono ?_
   rintro e w2 ⟨rfl,hb2⟩
   have V2:Bk w2 (w.heap.size+1) 37 #[.int .i64 v.x,.int .i64 v.y]:=Bk.later (by(repeat first|(with_reducible first|assumption|exact kN _ _ _ (by simp)|refine kA ?_ _|refine kD ?_|refine kW ?_ _|apply Bk.set'|refine kF ?_ (by simp<;>omega) _|refine kL ?_ ‹_›|refine kG ?_ ‹_› (by first|omega|simp<;>omega))|exact⟨by with_reducible rfl⟩|exact⟨by simp⟩)) hb2
   have G2:=Bk.later (w:=wr.drew) hG hb2
   have h4:w2.cell? ⟨g,4,none⟩=some (.pointer p'):=G2.cell 4
   have d2:Below w.heap.size w w2:=by(with_reducible repeat first|assumption|exact bl0 _ _|refine blA ?_ _|(refine blS ?_ ?_ _;(simp<;>omega))|refine blD ?_|refine blN ?_ _|refine blF ?_ ‹_›)
   have L2:Lw w2 B (.pointer p') bs g:=hL2.same fun k _ h2=>hb2.block k (by show k<wr.heap.size;omega)
   have z2:=G2.lt
   clear hb2 g0 g1 g2 g3 g4 p0 p1 pf hV hG hL2
   cases ht:Qag b v 500
   ·go_wp2
    go_roundg bs.length
    case measure=>simp at hk;omega
    case rel=>exact⟨dn++ [b],bs,B,g,by rw[HE.out];simp,rfl,(fun x hx=>by rcases List.mem_append.1 hx with h|h;exact HNo.out x h;simp at h;subst h;exact ht),L2,by omega,V2,d2⟩
   ·have HF:=Lib.hid (Qpx HE.out ht)
    go_wp2
    go_ret
    exact⟨Qs HF.out.symm,by(with_reducible repeat first|assumption|exact bl0 _ _|refine blA ?_ _|(refine blS ?_ ?_ _;(simp<;>omega))|refine blD ?_|refine blN ?_ _|refine blF ?_ ‹_›)⟩
end Go.Proofs.YtgaimkihacljdaaGreat
/- The program's LevelValid: all boxes of a level in one slice; is one of them no box. (Round B) -/
namespace Go.Proofs.YtgaimkihacljdaaGreat
open Go.ChangeShapes Go.WideShapes Go.ChangeAt Go.RowKit
theorem Sq.infoBox:(Sq.prog.info? 40).map (fun i=>(i.zero,i.size,i.bytes))=some (some (.agg #[.int .i64 0,.int .i64 0,.int .i64 0,.int .i64 0]),4,32):=by kernel_rfl
theorem Qgv(b:Bx): ∀u∈Qc b,u.oneCell'=true:=by
 intro u hu
 simp only[Qc,List.mem_cons,List.not_mem_nil,or_false] at hu
 rcases hu with rfl|rfl|rfl|rfl<;>rfl
theorem Qtl{α:Type}{enc:α→List Value}{w:World}{T:TypeId}{sz cap B:Nat}{cs:Array Value}(hB:B≤w.heap.size)(hc:cap≤maxLen)(hs:cs.size=cap*sz):Own (w.alloc (.cells cs T)) B T sz enc (.slice (some ⟨w.heap.size,0,none⟩) 0 cap) []:=by
 refine⟨by simp,.inr ⟨w.heap.size,cap,cs,rfl,hB,heap_alloc_new w _,Nat.zero_le _,hc,hs,by simp⟩⟩
set_option maxRecDepth 100000 in
set_option maxHeartbeats 2000000 in
theorem QpL(n:Nat)(w:World)(h1:1≤n)(hn:n≤1000):Calls Sq.prog 77 #[.slice none 0 0,.int .i64 n] w (XM 40 4 Qc ([]:List Bx) w):=by
 obtain⟨i0,hi,hz0,hz1,hz2⟩:=info_parts Sq.infoBox
 have hap:=Lib.run_append_nil_zeros (P:=Sq.prog) w 38 3 38 40 i0 _ .i64 .i64 (Sq.und Tryz.underlying38) (by kernel_rfl) hi hz0 n (by omega) (by omega) (by omega) (by rw[hz2];omega)
 have hcg:=grownCap_ge w n 0 40
 have hcm:=grownCap_le_maxLen w n 0 40 (by unfold maxLen;omega)
 have hO:Own (w.drew.alloc (.cells (Builtin.zeroCells (Value.agg #[.int .i64 0,.int .i64 0,.int .i64 0,.int .i64 0]).cells n++Builtin.zeroCells (Value.agg #[.int .i64 0,.int .i64 0,.int .i64 0,.int .i64 0]).cells (grownCap w n 0 40 - n)) 40)) w.heap.size 40 4 Qc (.slice (some ⟨w.heap.size,0,none⟩) 0 (grownCap w n 0 40)) []:=by
  refine Qtl (w:=w.drew) (Nat.le_refl _) hcm ?_
  rw[Array.size_append,size_zeroCells,size_zeroCells,show(Value.agg #[.int .i64 0,.int .i64 0,.int .i64 0,.int .i64 0]).cells.size=4 from rfl,←Nat.add_mul]
  congr 1
  omega
 generalize grownCap w n 0 40=cap at*
 have hb:Below w.heap.size w (w.drew.alloc (.cells (Builtin.zeroCells (Value.agg #[.int .i64 0,.int .i64 0,.int .i64 0,.int .i64 0]).cells n++Builtin.zeroCells (Value.agg #[.int .i64 0,.int .i64 0,.int .i64 0,.int .i64 0]).cells (cap - n)) 40)):=by(with_reducible repeat first|exact bl0 _ _|refine blA ?_ _|(refine blS ?_ ?_ _;(simp<;>omega))|refine blD ?_|refine blN ?_ _|refine blF ?_ ‹_›)
 generalize (w.drew.alloc (.cells (Builtin.zeroCells (Value.agg #[.int .i64 0,.int .i64 0,.int .i64 0,.int .i64 0]).cells n++Builtin.zeroCells (Value.agg #[.int .i64 0,.int .i64 0,.int .i64 0,.int .i64 0]).cells (cap - n)) 40))=w' at*
 go_enter Sq.func77, Tryz.ntmps77
 go_wp2_with (at_builtin;refine Lib.wpList_append_run _ rfl _ _ _ _ rfl _ _ rfl rfl _ _ hap ?_)
 exact bodyPost_ret (v:= .slice (some ⟨w.heap.size,0,none⟩) 0 cap) (by simp[results, Tryz.results77,go_sem]) rfl ⟨_,cap,rfl,Nat.zero_le _,hO,hb⟩
set_option maxRecDepth 100000 in
set_option maxHeartbeats 4000000 in
theorem Qom(g c0:Nat)(A1 A2 A3:Option Addr)(c1 c2 c3:Nat)(l1 l2 l3:List Bx)(w:World)(hg:Bk w g 38 #[.slice A1 l1.length c1,.slice A2 l2.length c2,.slice A3 l3.length c3])
 (h1:Sl w 4 Qc A1 l1.length l1)(h2:Sl w 4 Qc A2 l2.length l2)(h3:Sl w 4 Qc A3 l3.length l3)(e1:A1=none→c1=0)(e2:A2=none→c2=0)(e3:A3=none→c3=0)
 (hn0:1≤l1.length+l2.length+l3.length)(hn:l1.length+l2.length+l3.length≤1000):
 Calls Sq.prog 59 #[.slice (some ⟨g,0,none⟩) 3 c0] w (XM 40 4 Qc (l1++l2++l3) w):=by
 obtain⟨i0,hi,hz0,hz1,hz2⟩:=info_parts Sq.infoBox
 have hgr:=QpL (l1.length+l2.length+l3.length) w hn0 hn
 rw[Int.natCast_add,Int.natCast_add] at hgr
 have zg:=hg.lt
 obtain⟨⟨g0,g1,g2⟩,gf⟩:=hg.c3
 go_enter Sq.func59, Tryz.ntmps59
 go_wp2
 refine wp_loop_rounds 4 ?_
 rw[rounds_succ]
 go_wp2
 rw[rounds_succ]
 go_wp2
 rw[rounds_succ]
 go_wp2
 rw[rounds_succ]
 go_wp2_with fail
 refine hgr.mono ?_
 rintro e w1 ⟨A0,cc,rfl,hcc,O1,b1⟩
 simp only[List.length_nil] at O1 hcc⊢
 have o1:=fun g e=>(O1.lt g e).1
 have hG1:=hg.later b1
 have z1:=b1.size
 clear g0 g1 g2 gf hgr
 obtain⟨⟨g0,g1,g2⟩,gf⟩:=hG1.c3
 go_wp2
 refine wp_loop_rounds 4 ?_
 rw[rounds_succ]
 go_wp2_with (at_builtin;refine Xp rfl _ _ 38 rfl w.heap.size 40 i0 (.agg #[.int .i64 0,.int .i64 0,.int .i64 0,.int .i64 0]) 4 32 (Sq.und Tryz.underlying38) hi hz0 hz1 hz2 rfl (by decide) Qv Qgv _ [] l1 rfl O1 _ _ _ rfl (h1.below b1) e1 (by unfold maxLen;simp;omega) (by simp;omega) z1 ?_;intro v2 w2 O2 gr2)
 have b2:Below w.heap.size w w2:=b1.grown gr2 z1 o1
 have o2:=fun g e=>(O2.lt g e).1
 have hG2:=hg.later b2
 have z2:=b2.size
 clear g0 g1 g2 gf hG1 gr2 O1 o1
 obtain⟨⟨g0,g1,g2⟩,gf⟩:=hG2.c3
 rw[rounds_succ]
 go_wp2_with (at_builtin;refine Xp rfl _ _ 38 rfl w.heap.size 40 i0 (.agg #[.int .i64 0,.int .i64 0,.int .i64 0,.int .i64 0]) 4 32 (Sq.und Tryz.underlying38) hi hz0 hz1 hz2 rfl (by decide) Qv Qgv _ ([]++l1) l2 rfl O2 _ _ _ rfl (h2.below b2) e2 (by unfold maxLen;simp;omega) (by simp;omega) z2 ?_;intro v3 w3 O3 gr3)
 have b3:Below w.heap.size w w3:=b2.grown gr3 z2 o2
 have o3:=fun g e=>(O3.lt g e).1
 have hG3:=hg.later b3
 have z3:=b3.size
 clear g0 g1 g2 gf hG2 gr3 O2 o2
 obtain⟨⟨g0,g1,g2⟩,gf⟩:=hG3.c3
 rw[rounds_succ]
 go_wp2_with (at_builtin;refine Xp rfl _ _ 38 rfl w.heap.size 40 i0 (.agg #[.int .i64 0,.int .i64 0,.int .i64 0,.int .i64 0]) 4 32 (Sq.und Tryz.underlying38) hi hz0 hz1 hz2 rfl (by decide) Qv Qgv _ ([]++l1++l2) l3 rfl O3 _ _ _ rfl (h3.below b3) e3 (by unfold maxLen;simp;omega) (by simp;omega) z3 ?_;intro v4 w4 O4 gr4)
 have b4:Below w.heap.size w w4:=b3.grown gr4 z3 o3
 clear g0 g1 g2 gf hG3 gr4 O3 o3
 rw[List.nil_append] at O4
 obtain⟨A4,c4,rfl,hc4,_⟩:=O4.form
 rw[rounds_succ]
 go_wp2
 exact bodyPost_ret (v:= .slice A4 (l1++l2++l3).length c4) (by simp[results, Tryz.results59,go_sem]) rfl ⟨A4,c4,rfl,hc4,O4,b4⟩
def Xe(l:Lev):List Bx:=l.walls++l.gates++ [l.fin]
theorem Qht(l:Lev):(Xe l).all bxOk=(XZ l.walls && (XZ l.gates && bxOk l.fin)):=by simp[Xe,XZ,List.all_append]
set_option maxRecDepth 100000 in
set_option maxHeartbeats 2000000 in
theorem Qbk(l:Lev)(A A':Option Addr)(c c':Nat)(w:World)(h:Sl w 4 Qc A l.walls.length l.walls)(h':Sl w 4 Qc A' l.gates.length l.gates)(e:A=none→c=0)(e':A'=none→c'=0)(hn:l.walls.length≤100)(hn':l.gates.length≤100):
 Calls Sq.prog 39 #[.agg #[.int .i64 l.id,.int .i64 l.ticks,.int .i64 l.start.x,.int .i64 l.start.y,.slice A l.walls.length c,.slice A' l.gates.length c',.int .i64 l.fin.lo.x,.int .i64 l.fin.lo.y,.int .i64 l.fin.hi.x,.int .i64 l.fin.hi.y,.int .i64 l.bans]] w (XM 40 4 Qc (Xe l) w):=by
 go_enter Sq.func39, Tryz.ntmps39
 go_wp2_with fail
 have hS:=(Sl.one (enc:=Qc) (sz:=4) (w.alloc (.cells #[.int .i64 l.id,.int .i64 l.ticks,.int .i64 l.start.x,.int .i64 l.start.y,.slice A l.walls.length c,.slice A' l.gates.length c',.int .i64 l.fin.lo.x,.int .i64 l.fin.lo.y,.int .i64 l.fin.hi.x,.int .i64 l.fin.hi.y,.int .i64 l.bans] 42)) l.fin 40 #[.int .i64 l.fin.lo.x,.int .i64 l.fin.lo.y,.int .i64 l.fin.hi.x,.int .i64 l.fin.hi.y] rfl)
 rw[World.size_alloc] at hS
 refine(Qom (w.heap.size+1+1) _ A A' (some ⟨w.heap.size+1,0,none⟩) c c' 1 l.walls l.gates [l.fin] _ (by simp only[List.length_cons,List.length_nil,Nat.zero_add];(repeat first|(with_reducible first|assumption|exact kN _ _ _ (by simp)|refine kA ?_ _|refine kD ?_|refine kW ?_ _|apply Bk.set'|refine kF ?_ (by simp<;>omega) _|refine kL ?_ ‹_›|refine kG ?_ ‹_› (by first|omega|simp<;>omega))|exact⟨by with_reducible rfl⟩|exact⟨by simp⟩)) (h.below (by(with_reducible repeat first|exact bl0 _ _|refine blA ?_ _|(refine blS ?_ ?_ _;(simp<;>omega))|refine blD ?_|refine blN ?_ _|refine blF ?_ ‹_›))) (h'.below (by(with_reducible repeat first|exact bl0 _ _|refine blA ?_ _|(refine blS ?_ ?_ _;(simp<;>omega))|refine blD ?_|refine blN ?_ _|refine blF ?_ ‹_›))) (hS.below (Qf (Below.refl _ _) _)) e e' (by intro e;cases e) (by simp) (by simp;omega)).mono ?_
 rintro e w1 ⟨A4,c4,rfl,hc4,O4,b4⟩
 go_wp2
 refine bodyPost_ret (v:= .slice A4 (Xe l).length c4) (by simp[results, Tryz.results39,go_sem,Xe]) rfl ⟨A4,c4,rfl,hc4,O4.mono (by simp;omega),?_⟩
 (with_reducible repeat first|assumption|exact bl0 _ _|refine blA ?_ _|(refine blS ?_ ?_ _;(simp<;>omega))|refine blD ?_|refine blN ?_ _|refine blF ?_ ‹_›)
theorem Qjw(b:Bx)(w:World):Calls Sq.prog 40 #[.agg #[.int .i64 b.lo.x,.int .i64 b.lo.y,.int .i64 b.hi.x,.int .i64 b.hi.y]] w fun e w'=>e= .returned (.bool (!bxOk b))∧Below w.heap.size w w':=by
 go_enter Sq.func40, Tryz.ntmps40
 go_wp2_with (go_at_call 41;refine(QiL _ _).mono ?_;rintro e w1 ⟨rfl,hb1⟩)
 go_ret
 exact⟨rfl,by(with_reducible repeat first|assumption|exact bl0 _ _|refine blA ?_ _|(refine blS ?_ ?_ _;(simp<;>omega))|refine blD ?_|refine blN ?_ _|refine blF ?_ ‹_›)⟩
set_option maxRecDepth 100000 in
theorem Qqe(A:Option Addr)(n c:Nat)(l:List Bx)(w:World)(h:Sl w 4 Qc A n l)(hn:n≤9223372036854775807):Calls Sq.prog 58 #[.slice A n c,.func (.func 40) #[] #[]] w (Qfl (!l.all bxOk) w):=by
 obtain rfl:=h.len
 go_enter Sq.func58, Tryz.ntmps58
 go_wp2
 go_loopw [8] (fun i wr=>∃k:Nat,k≤l.length∧i= .int .i64 k∧(l.take k).all bxOk=true∧Below w.heap.size w wr) (fun i _=>l.length - (intOf i).toNat)
 case atStart=>exact⟨0,Nat.zero_le _,rfl,rfl,Below.refl _ _⟩
 case round=>
  obtain⟨k,hk,rfl,ht,hb⟩:=hrel
  have Ht:=Lib.hid ht;clear ht
  by_cases hlt:k<l.length
  ·obtain⟨b,off,x,rfl,hbl,hx,hc⟩:=(h.below hb).at_ hlt
   have q0:wr.cell? ⟨b,off+k*4,none⟩=some (.int .i64 x.lo.x):=hc 0 _ rfl
   have q1:wr.cell? ⟨b,off+k*4+1,none⟩=some (.int .i64 x.lo.y):=hc 1 _ rfl
   have q2:wr.cell? ⟨b,off+k*4+2,none⟩=some (.int .i64 x.hi.x):=hc 2 _ rfl
   have q3:wr.cell? ⟨b,off+k*4+3,none⟩=some (.int .i64 x.hi.y):=hc 3 _ rfl
   have Hx:=Lib.hid hx;clear hx
   clear h hc
   cases hbx:bxOk x
   ·go_wp2_with (go_at_call 40;refine(Qjw x _).mono ?_;rw[hbx];rintro e w' ⟨rfl,hb1⟩)
    go_ret
    exact⟨(k:Int),rfl,by rw[Qbi Hx.out hbx];simp,hb.trans (hb1.mono hb.size)⟩
   ·go_wp2_with (go_at_call 40;refine(Qjw x _).mono ?_;rw[hbx];rintro e w' ⟨rfl,hb1⟩)
    go_roundw
    case rel=>exact⟨k+1,by omega,by go_num,Qbj Hx.out Ht.out hbx,hb.trans (hb1.mono hb.size)⟩
    case measure=>simp[intOf];omega
  ·have hkn:l.take k=l:=List.take_of_length_le (by omega)
   have H:=Lib.hid hkn;clear hkn
   go_wp2
   go_ret
   exact⟨-1,rfl,by have:=Ht.out;rw[H.out] at this;rw[this];rfl,hb⟩
theorem Qbm(A:Option Addr)(n c:Nat)(l:List Bx)(w:World)(h:Sl w 4 Qc A n l)(hn:n≤9223372036854775807):Calls Sq.prog 38 #[.slice A n c,.func (.func 40) #[] #[]] w fun e w'=>e= .returned (.bool (!l.all bxOk))∧Below w.heap.size w w':=by
 go_enter Sq.func38, Tryz.ntmps38
 go_wp2_with (go_at_call 58;refine(Qqe _ _ _ l _ h hn).mono ?_;rintro e w' ⟨r,rfl,hr,hb⟩;have HR:=Lib.hid hr;clear hr)
 go_ret
 exact⟨Qs HR.out,hb⟩
end Go.Proofs.YtgaimkihacljdaaGreat
/- The program's LevelValid and what asks for it. (Round B) -/
namespace Go.Proofs.YtgaimkihacljdaaGreat
open Go.ChangeShapes Go.WideShapes Go.ChangeAt Go.RowKit
theorem XU(x y:Int)(w:World):Calls Sq.prog 37 #[.agg #[.int .i64 x,.int .i64 y]] w fun e w'=>e= .returned (.bool (vOk ⟨x,y⟩))∧Below w.heap.size w w':=JG ⟨x,y⟩ w
def Qbv(l:Lev):Bool:=inR 0 99 l.id && (inR 1 60 l.ticks && (vOk l.start && inR 0 3 l.bans))
def QcH(l:Lev):Bool:=decide (l.walls.length≤4) && (decide (l.gates.length≤3) && (Xe l).all bxOk)
theorem QrR(l:Lev):QE l=(Qbv l && (QcH l && QY l l.start)):=by
 unfold QE Qbv QcH
 rw[Qht,Bool.eq_iff_iff]
 simp only[Bool.and_eq_true]
 constructor
 ·rintro⟨a,b,c,d,e,f,g,h,i,j⟩;exact⟨⟨a,b,c,i⟩,⟨d,f,e,g,h⟩,j⟩
 ·rintro⟨⟨a,b,c,i⟩,⟨d,f,e,g,h⟩,j⟩;exact⟨a,b,c,d,e,f,g,h,i,j⟩
set_option maxRecDepth 100000 in
set_option maxHeartbeats 4000000 in
theorem Zi(l:Lev)(A A':Option Addr)(c c':Nat)(w:World)(h:Sl w 4 Qc A l.walls.length l.walls)(hg:Sl w 4 Qc A' l.gates.length l.gates)(e:A=none→c=0)(e':A'=none→c'=0)(hn:(l.walls.length:Nat)≤9223372036854775807)(hn':(l.gates.length:Nat)≤9223372036854775807):
 Calls Sq.prog 23 #[.agg #[.int .i64 l.id,.int .i64 l.ticks,.int .i64 l.start.x,.int .i64 l.start.y,.slice A l.walls.length c,.slice A' l.gates.length c',.int .i64 l.fin.lo.x,.int .i64 l.fin.lo.y,.int .i64 l.fin.hi.x,.int .i64 l.fin.hi.y,.int .i64 l.bans]] w fun e w'=>e= .returned (.bool (QE l))∧Below w.heap.size w w':=by
 have HP:=Lib.hid (QrR l)
 cases h1:inR 0 99 l.id
 ·have HN:Hid (false=QE l):=Lib.hid (by rw[HP.out];simp[Qbv,h1])
  go_enter Sq.func23, Tryz.ntmps23
  go_wp2_with (first|(go_at_call 36;refine(QZ _ _ _ _).mono ?_;rintro e w0 ⟨rfl,rfl⟩)|(go_at_call 37;refine(XU _ _ _).mono ?_;rintro e w1 ⟨rfl,hb1⟩;obtain⟨hc1,hf1⟩:=Qy hb1;have hy1:w.heap.size<w1.heap.size:=(by have:=hb1.size;first|omega|(simp at this;omega)))|(go_at_call 39;refine(Qbk l A A' c c' _ (h.below (by(with_reducible repeat first|assumption|exact bl0 _ _|refine blA ?_ _|(refine blS ?_ ?_ _;(simp<;>omega))|refine blD ?_|refine blN ?_ _|refine blF ?_ ‹_›))) (hg.below (by(with_reducible repeat first|assumption|exact bl0 _ _|refine blA ?_ _|(refine blS ?_ ?_ _;(simp<;>omega))|refine blD ?_|refine blN ?_ _|refine blF ?_ ‹_›))) e e' (by omega) (by omega)).mono ?_;rintro e w2 ⟨A2,c2,rfl,hc2,O2,hb2⟩;obtain⟨hc2,hf2⟩:=Qy hb2;have hy2:w.heap.size<w2.heap.size:=(by have:=hb2.size;first|omega|(simp at this;omega));have hl2:=hb2.size)|(go_at_call 38;refine(Qbm _ _ _ (Xe l) _ (O2.sl' Qv) (by simp[Xe];omega)).mono ?_;rw[ha];rintro e w3 ⟨rfl,hb3⟩;obtain⟨hc3,hf3⟩:=Qy hb3;have hy3:w.heap.size<w3.heap.size:=(by have:=hb3.size;first|omega|(simp at this;omega)))|(go_at_call 42;refine(JF l l.start A A' c c' _ (h.below (by(with_reducible repeat first|assumption|exact bl0 _ _|refine blA ?_ _|(refine blS ?_ ?_ _;(simp<;>omega))|refine blD ?_|refine blN ?_ _|refine blF ?_ ‹_›))) hn HWB.out HSB.out).mono ?_;rintro e w4 ⟨rfl,hb4⟩))
  go_ret
  exact⟨Qs HN.out,by(with_reducible repeat first|assumption|exact bl0 _ _|refine blA ?_ _|(refine blS ?_ ?_ _;(simp<;>omega))|refine blD ?_|refine blN ?_ _|refine blF ?_ ‹_›)⟩
 cases h2:inR 1 60 l.ticks
 ·have HN:Hid (false=QE l):=Lib.hid (by rw[HP.out];simp[Qbv,h2])
  go_enter Sq.func23, Tryz.ntmps23
  go_wp2_with (first|(go_at_call 36;refine(QZ _ _ _ _).mono ?_;rintro e w0 ⟨rfl,rfl⟩)|(go_at_call 37;refine(XU _ _ _).mono ?_;rintro e w1 ⟨rfl,hb1⟩;obtain⟨hc1,hf1⟩:=Qy hb1;have hy1:w.heap.size<w1.heap.size:=(by have:=hb1.size;first|omega|(simp at this;omega)))|(go_at_call 39;refine(Qbk l A A' c c' _ (h.below (by(with_reducible repeat first|assumption|exact bl0 _ _|refine blA ?_ _|(refine blS ?_ ?_ _;(simp<;>omega))|refine blD ?_|refine blN ?_ _|refine blF ?_ ‹_›))) (hg.below (by(with_reducible repeat first|assumption|exact bl0 _ _|refine blA ?_ _|(refine blS ?_ ?_ _;(simp<;>omega))|refine blD ?_|refine blN ?_ _|refine blF ?_ ‹_›))) e e' (by omega) (by omega)).mono ?_;rintro e w2 ⟨A2,c2,rfl,hc2,O2,hb2⟩;obtain⟨hc2,hf2⟩:=Qy hb2;have hy2:w.heap.size<w2.heap.size:=(by have:=hb2.size;first|omega|(simp at this;omega));have hl2:=hb2.size)|(go_at_call 38;refine(Qbm _ _ _ (Xe l) _ (O2.sl' Qv) (by simp[Xe];omega)).mono ?_;rw[ha];rintro e w3 ⟨rfl,hb3⟩;obtain⟨hc3,hf3⟩:=Qy hb3;have hy3:w.heap.size<w3.heap.size:=(by have:=hb3.size;first|omega|(simp at this;omega)))|(go_at_call 42;refine(JF l l.start A A' c c' _ (h.below (by(with_reducible repeat first|assumption|exact bl0 _ _|refine blA ?_ _|(refine blS ?_ ?_ _;(simp<;>omega))|refine blD ?_|refine blN ?_ _|refine blF ?_ ‹_›))) hn HWB.out HSB.out).mono ?_;rintro e w4 ⟨rfl,hb4⟩))
  go_ret
  exact⟨Qs HN.out,by(with_reducible repeat first|assumption|exact bl0 _ _|refine blA ?_ _|(refine blS ?_ ?_ _;(simp<;>omega))|refine blD ?_|refine blN ?_ _|refine blF ?_ ‹_›)⟩
 cases h3:vOk ⟨l.start.x,l.start.y⟩
 ·have HN:Hid (false=QE l):=Lib.hid (by rw[HP.out];simp[Qbv,show vOk l.start=false from h3])
  go_enter Sq.func23, Tryz.ntmps23
  go_wp2_with (first|(go_at_call 36;refine(QZ _ _ _ _).mono ?_;rintro e w0 ⟨rfl,rfl⟩)|(go_at_call 37;refine(XU _ _ _).mono ?_;rintro e w1 ⟨rfl,hb1⟩;obtain⟨hc1,hf1⟩:=Qy hb1;have hy1:w.heap.size<w1.heap.size:=(by have:=hb1.size;first|omega|(simp at this;omega)))|(go_at_call 39;refine(Qbk l A A' c c' _ (h.below (by(with_reducible repeat first|assumption|exact bl0 _ _|refine blA ?_ _|(refine blS ?_ ?_ _;(simp<;>omega))|refine blD ?_|refine blN ?_ _|refine blF ?_ ‹_›))) (hg.below (by(with_reducible repeat first|assumption|exact bl0 _ _|refine blA ?_ _|(refine blS ?_ ?_ _;(simp<;>omega))|refine blD ?_|refine blN ?_ _|refine blF ?_ ‹_›))) e e' (by omega) (by omega)).mono ?_;rintro e w2 ⟨A2,c2,rfl,hc2,O2,hb2⟩;obtain⟨hc2,hf2⟩:=Qy hb2;have hy2:w.heap.size<w2.heap.size:=(by have:=hb2.size;first|omega|(simp at this;omega));have hl2:=hb2.size)|(go_at_call 38;refine(Qbm _ _ _ (Xe l) _ (O2.sl' Qv) (by simp[Xe];omega)).mono ?_;rw[ha];rintro e w3 ⟨rfl,hb3⟩;obtain⟨hc3,hf3⟩:=Qy hb3;have hy3:w.heap.size<w3.heap.size:=(by have:=hb3.size;first|omega|(simp at this;omega)))|(go_at_call 42;refine(JF l l.start A A' c c' _ (h.below (by(with_reducible repeat first|assumption|exact bl0 _ _|refine blA ?_ _|(refine blS ?_ ?_ _;(simp<;>omega))|refine blD ?_|refine blN ?_ _|refine blF ?_ ‹_›))) hn HWB.out HSB.out).mono ?_;rintro e w4 ⟨rfl,hb4⟩))
  go_ret
  exact⟨Qs HN.out,by(with_reducible repeat first|assumption|exact bl0 _ _|refine blA ?_ _|(refine blS ?_ ?_ _;(simp<;>omega))|refine blD ?_|refine blN ?_ _|refine blF ?_ ‹_›)⟩
 cases h4:inR 0 3 l.bans
 ·have HN:Hid (false=QE l):=Lib.hid (by rw[HP.out];simp[Qbv,h4])
  go_enter Sq.func23, Tryz.ntmps23
  go_wp2_with (first|(go_at_call 36;refine(QZ _ _ _ _).mono ?_;rintro e w0 ⟨rfl,rfl⟩)|(go_at_call 37;refine(XU _ _ _).mono ?_;rintro e w1 ⟨rfl,hb1⟩;obtain⟨hc1,hf1⟩:=Qy hb1;have hy1:w.heap.size<w1.heap.size:=(by have:=hb1.size;first|omega|(simp at this;omega)))|(go_at_call 39;refine(Qbk l A A' c c' _ (h.below (by(with_reducible repeat first|assumption|exact bl0 _ _|refine blA ?_ _|(refine blS ?_ ?_ _;(simp<;>omega))|refine blD ?_|refine blN ?_ _|refine blF ?_ ‹_›))) (hg.below (by(with_reducible repeat first|assumption|exact bl0 _ _|refine blA ?_ _|(refine blS ?_ ?_ _;(simp<;>omega))|refine blD ?_|refine blN ?_ _|refine blF ?_ ‹_›))) e e' (by omega) (by omega)).mono ?_;rintro e w2 ⟨A2,c2,rfl,hc2,O2,hb2⟩;obtain⟨hc2,hf2⟩:=Qy hb2;have hy2:w.heap.size<w2.heap.size:=(by have:=hb2.size;first|omega|(simp at this;omega));have hl2:=hb2.size)|(go_at_call 38;refine(Qbm _ _ _ (Xe l) _ (O2.sl' Qv) (by simp[Xe];omega)).mono ?_;rw[ha];rintro e w3 ⟨rfl,hb3⟩;obtain⟨hc3,hf3⟩:=Qy hb3;have hy3:w.heap.size<w3.heap.size:=(by have:=hb3.size;first|omega|(simp at this;omega)))|(go_at_call 42;refine(JF l l.start A A' c c' _ (h.below (by(with_reducible repeat first|assumption|exact bl0 _ _|refine blA ?_ _|(refine blS ?_ ?_ _;(simp<;>omega))|refine blD ?_|refine blN ?_ _|refine blF ?_ ‹_›))) hn HWB.out HSB.out).mono ?_;rintro e w4 ⟨rfl,hb4⟩))
  go_ret
  exact⟨Qs HN.out,by(with_reducible repeat first|assumption|exact bl0 _ _|refine blA ?_ _|(refine blS ?_ ?_ _;(simp<;>omega))|refine blD ?_|refine blN ?_ _|refine blF ?_ ‹_›)⟩
 have HH:Hid (Qbv l=true):=Lib.hid (by simp[Qbv,h1,h2,show vOk l.start=true from h3,h4])
 have HSB:Hid (bdV l.start):=Lib.hid (QaB h3)
 by_cases hw:l.walls.length≤4
 ·have hwd: ¬((4:Int)<l.walls.length):=by omega
  by_cases hgt:l.gates.length≤3
  ·have hgd: ¬((3:Int)<l.gates.length):=by omega
   cases ha:(Xe l).all bxOk
   ·have HN:Hid (false=QE l):=Lib.hid (by rw[HP.out];simp[QcH,ha])
    go_enter Sq.func23, Tryz.ntmps23
    go_wp2_with (first|(go_at_call 36;refine(QZ _ _ _ _).mono ?_;rintro e w0 ⟨rfl,rfl⟩)|(go_at_call 37;refine(XU _ _ _).mono ?_;rintro e w1 ⟨rfl,hb1⟩;obtain⟨hc1,hf1⟩:=Qy hb1;have hy1:w.heap.size<w1.heap.size:=(by have:=hb1.size;first|omega|(simp at this;omega)))|(go_at_call 39;refine(Qbk l A A' c c' _ (h.below (by(with_reducible repeat first|assumption|exact bl0 _ _|refine blA ?_ _|(refine blS ?_ ?_ _;(simp<;>omega))|refine blD ?_|refine blN ?_ _|refine blF ?_ ‹_›))) (hg.below (by(with_reducible repeat first|assumption|exact bl0 _ _|refine blA ?_ _|(refine blS ?_ ?_ _;(simp<;>omega))|refine blD ?_|refine blN ?_ _|refine blF ?_ ‹_›))) e e' (by omega) (by omega)).mono ?_;rintro e w2 ⟨A2,c2,rfl,hc2,O2,hb2⟩;obtain⟨hc2,hf2⟩:=Qy hb2;have hy2:w.heap.size<w2.heap.size:=(by have:=hb2.size;first|omega|(simp at this;omega));have hl2:=hb2.size)|(go_at_call 38;refine(Qbm _ _ _ (Xe l) _ (O2.sl' Qv) (by simp[Xe];omega)).mono ?_;rw[ha];rintro e w3 ⟨rfl,hb3⟩;obtain⟨hc3,hf3⟩:=Qy hb3;have hy3:w.heap.size<w3.heap.size:=(by have:=hb3.size;first|omega|(simp at this;omega)))|(go_at_call 42;refine(JF l l.start A A' c c' _ (h.below (by(with_reducible repeat first|assumption|exact bl0 _ _|refine blA ?_ _|(refine blS ?_ ?_ _;(simp<;>omega))|refine blD ?_|refine blN ?_ _|refine blF ?_ ‹_›))) hn HWB.out HSB.out).mono ?_;rintro e w4 ⟨rfl,hb4⟩))
    go_ret
    exact⟨Qs HN.out,by(with_reducible repeat first|assumption|exact bl0 _ _|refine blA ?_ _|(refine blS ?_ ?_ _;(simp<;>omega))|refine blD ?_|refine blN ?_ _|refine blF ?_ ‹_›)⟩
   ·have HT:Hid (QcH l=true):=Lib.hid (by simp[QcH,hw,hgt,ha])
    have HWB:Hid (XZ l.walls=true):=Lib.hid (by rw[Qht] at ha;simp only[Bool.and_eq_true] at ha;exact ha.1)
    have HN:Hid (QE l=QY l l.start):=Lib.hid (by rw[HP.out,HH.out,HT.out];rfl)
    go_enter Sq.func23, Tryz.ntmps23
    go_wp2_with (first|(go_at_call 36;refine(QZ _ _ _ _).mono ?_;rintro e w0 ⟨rfl,rfl⟩)|(go_at_call 37;refine(XU _ _ _).mono ?_;rintro e w1 ⟨rfl,hb1⟩;obtain⟨hc1,hf1⟩:=Qy hb1;have hy1:w.heap.size<w1.heap.size:=(by have:=hb1.size;first|omega|(simp at this;omega)))|(go_at_call 39;refine(Qbk l A A' c c' _ (h.below (by(with_reducible repeat first|assumption|exact bl0 _ _|refine blA ?_ _|(refine blS ?_ ?_ _;(simp<;>omega))|refine blD ?_|refine blN ?_ _|refine blF ?_ ‹_›))) (hg.below (by(with_reducible repeat first|assumption|exact bl0 _ _|refine blA ?_ _|(refine blS ?_ ?_ _;(simp<;>omega))|refine blD ?_|refine blN ?_ _|refine blF ?_ ‹_›))) e e' (by omega) (by omega)).mono ?_;rintro e w2 ⟨A2,c2,rfl,hc2,O2,hb2⟩;obtain⟨hc2,hf2⟩:=Qy hb2;have hy2:w.heap.size<w2.heap.size:=(by have:=hb2.size;first|omega|(simp at this;omega));have hl2:=hb2.size)|(go_at_call 38;refine(Qbm _ _ _ (Xe l) _ (O2.sl' Qv) (by simp[Xe];omega)).mono ?_;rw[ha];rintro e w3 ⟨rfl,hb3⟩;obtain⟨hc3,hf3⟩:=Qy hb3;have hy3:w.heap.size<w3.heap.size:=(by have:=hb3.size;first|omega|(simp at this;omega)))|(go_at_call 42;refine(JF l l.start A A' c c' _ (h.below (by(with_reducible repeat first|assumption|exact bl0 _ _|refine blA ?_ _|(refine blS ?_ ?_ _;(simp<;>omega))|refine blD ?_|refine blN ?_ _|refine blF ?_ ‹_›))) hn HWB.out HSB.out).mono ?_;rintro e w4 ⟨rfl,hb4⟩))
    go_ret
    exact⟨Qs HN.out.symm,by(with_reducible repeat first|assumption|exact bl0 _ _|refine blA ?_ _|(refine blS ?_ ?_ _;(simp<;>omega))|refine blD ?_|refine blN ?_ _|refine blF ?_ ‹_›)⟩
  ·have hgd:(3:Int)<l.gates.length:=by omega
   have HN:Hid (false=QE l):=Lib.hid (by rw[HP.out];simp[QcH,hgt])
   have ha:True:=trivial
   go_enter Sq.func23, Tryz.ntmps23
   go_wp2_with (first|(go_at_call 36;refine(QZ _ _ _ _).mono ?_;rintro e w0 ⟨rfl,rfl⟩)|(go_at_call 37;refine(XU _ _ _).mono ?_;rintro e w1 ⟨rfl,hb1⟩;obtain⟨hc1,hf1⟩:=Qy hb1;have hy1:w.heap.size<w1.heap.size:=(by have:=hb1.size;first|omega|(simp at this;omega)))|(go_at_call 39;refine(Qbk l A A' c c' _ (h.below (by(with_reducible repeat first|assumption|exact bl0 _ _|refine blA ?_ _|(refine blS ?_ ?_ _;(simp<;>omega))|refine blD ?_|refine blN ?_ _|refine blF ?_ ‹_›))) (hg.below (by(with_reducible repeat first|assumption|exact bl0 _ _|refine blA ?_ _|(refine blS ?_ ?_ _;(simp<;>omega))|refine blD ?_|refine blN ?_ _|refine blF ?_ ‹_›))) e e' (by omega) (by omega)).mono ?_;rintro e w2 ⟨A2,c2,rfl,hc2,O2,hb2⟩;obtain⟨hc2,hf2⟩:=Qy hb2;have hy2:w.heap.size<w2.heap.size:=(by have:=hb2.size;first|omega|(simp at this;omega));have hl2:=hb2.size)|(go_at_call 38;refine(Qbm _ _ _ (Xe l) _ (O2.sl' Qv) (by simp[Xe];omega)).mono ?_;rw[ha];rintro e w3 ⟨rfl,hb3⟩;obtain⟨hc3,hf3⟩:=Qy hb3;have hy3:w.heap.size<w3.heap.size:=(by have:=hb3.size;first|omega|(simp at this;omega)))|(go_at_call 42;refine(JF l l.start A A' c c' _ (h.below (by(with_reducible repeat first|assumption|exact bl0 _ _|refine blA ?_ _|(refine blS ?_ ?_ _;(simp<;>omega))|refine blD ?_|refine blN ?_ _|refine blF ?_ ‹_›))) hn HWB.out HSB.out).mono ?_;rintro e w4 ⟨rfl,hb4⟩))
   go_ret
   exact⟨Qs HN.out,by(with_reducible repeat first|assumption|exact bl0 _ _|refine blA ?_ _|(refine blS ?_ ?_ _;(simp<;>omega))|refine blD ?_|refine blN ?_ _|refine blF ?_ ‹_›)⟩
 ·have hwd:(4:Int)<l.walls.length:=by omega
  have HN:Hid (false=QE l):=Lib.hid (by rw[HP.out];simp[QcH,hw])
  go_enter Sq.func23, Tryz.ntmps23
  go_wp2_with (first|(go_at_call 36;refine(QZ _ _ _ _).mono ?_;rintro e w0 ⟨rfl,rfl⟩)|(go_at_call 37;refine(XU _ _ _).mono ?_;rintro e w1 ⟨rfl,hb1⟩;obtain⟨hc1,hf1⟩:=Qy hb1;have hy1:w.heap.size<w1.heap.size:=(by have:=hb1.size;first|omega|(simp at this;omega)))|(go_at_call 39;refine(Qbk l A A' c c' _ (h.below (by(with_reducible repeat first|assumption|exact bl0 _ _|refine blA ?_ _|(refine blS ?_ ?_ _;(simp<;>omega))|refine blD ?_|refine blN ?_ _|refine blF ?_ ‹_›))) (hg.below (by(with_reducible repeat first|assumption|exact bl0 _ _|refine blA ?_ _|(refine blS ?_ ?_ _;(simp<;>omega))|refine blD ?_|refine blN ?_ _|refine blF ?_ ‹_›))) e e' (by omega) (by omega)).mono ?_;rintro e w2 ⟨A2,c2,rfl,hc2,O2,hb2⟩;obtain⟨hc2,hf2⟩:=Qy hb2;have hy2:w.heap.size<w2.heap.size:=(by have:=hb2.size;first|omega|(simp at this;omega));have hl2:=hb2.size)|(go_at_call 38;refine(Qbm _ _ _ (Xe l) _ (O2.sl' Qv) (by simp[Xe];omega)).mono ?_;rw[ha];rintro e w3 ⟨rfl,hb3⟩;obtain⟨hc3,hf3⟩:=Qy hb3;have hy3:w.heap.size<w3.heap.size:=(by have:=hb3.size;first|omega|(simp at this;omega)))|(go_at_call 42;refine(JF l l.start A A' c c' _ (h.below (by(with_reducible repeat first|assumption|exact bl0 _ _|refine blA ?_ _|(refine blS ?_ ?_ _;(simp<;>omega))|refine blD ?_|refine blN ?_ _|refine blF ?_ ‹_›))) hn HWB.out HSB.out).mono ?_;rintro e w4 ⟨rfl,hb4⟩))
  go_ret
  exact⟨Qs HN.out,by(with_reducible repeat first|assumption|exact bl0 _ _|refine blA ?_ _|(refine blS ?_ ?_ _;(simp<;>omega))|refine blD ?_|refine blN ?_ _|refine blF ?_ ‹_›)⟩
end Go.Proofs.YtgaimkihacljdaaGreat
/- The program's tick. (Round B) -/
namespace Go.Proofs.YtgaimkihacljdaaGreat
open Go.ChangeShapes Go.WideShapes Go.ChangeAt Go.RowKit
theorem Qty(l:Lev)(s:St)(A A':Option Addr)(c c':Nat)(w:World)(ht:0≤s.t∧s.t≤1000):Calls Sq.prog 101 #[.agg #[],.agg #[.int .i64 l.id,.int .i64 l.ticks,.int .i64 l.start.x,.int .i64 l.start.y,.slice A l.walls.length c,.slice A' l.gates.length c',.int .i64 l.fin.lo.x,.int .i64 l.fin.lo.y,.int .i64 l.fin.hi.x,.int .i64 l.fin.hi.y,.int .i64 l.bans],.agg #[.int .i64 s.t,.int .i64 s.p.x,.int .i64 s.p.y,.int .i64 s.f.x,.int .i64 s.f.y,.int .i64 s.d,.int .i64 s.g,.bool s.dn,.bool s.ov]] w fun e w'=>e= .returned (.agg #[.int .i64 (⟨s.t+1,s.p,s.f,s.d,s.g,s.dn,s.ov⟩:St).t,.int .i64 (⟨s.t+1,s.p,s.f,s.d,s.g,s.dn,s.ov⟩:St).p.x,.int .i64 (⟨s.t+1,s.p,s.f,s.d,s.g,s.dn,s.ov⟩:St).p.y,.int .i64 (⟨s.t+1,s.p,s.f,s.d,s.g,s.dn,s.ov⟩:St).f.x,.int .i64 (⟨s.t+1,s.p,s.f,s.d,s.g,s.dn,s.ov⟩:St).f.y,.int .i64 (⟨s.t+1,s.p,s.f,s.d,s.g,s.dn,s.ov⟩:St).d,.int .i64 (⟨s.t+1,s.p,s.f,s.d,s.g,s.dn,s.ov⟩:St).g,.bool (⟨s.t+1,s.p,s.f,s.d,s.g,s.dn,s.ov⟩:St).dn,.bool (⟨s.t+1,s.p,s.f,s.d,s.g,s.dn,s.ov⟩:St).ov])∧Below w.heap.size w w':=by
 obtain⟨t0,t1⟩:=ht
 go_enter Sq.func101, Tryz.ntmps101
 go_wp2
 refine bodyPost_ret (v:= .agg #[.int .i64 (⟨s.t+1,s.p,s.f,s.d,s.g,s.dn,s.ov⟩:St).t,.int .i64 (⟨s.t+1,s.p,s.f,s.d,s.g,s.dn,s.ov⟩:St).p.x,.int .i64 (⟨s.t+1,s.p,s.f,s.d,s.g,s.dn,s.ov⟩:St).p.y,.int .i64 (⟨s.t+1,s.p,s.f,s.d,s.g,s.dn,s.ov⟩:St).f.x,.int .i64 (⟨s.t+1,s.p,s.f,s.d,s.g,s.dn,s.ov⟩:St).f.y,.int .i64 (⟨s.t+1,s.p,s.f,s.d,s.g,s.dn,s.ov⟩:St).d,.int .i64 (⟨s.t+1,s.p,s.f,s.d,s.g,s.dn,s.ov⟩:St).g,.bool (⟨s.t+1,s.p,s.f,s.d,s.g,s.dn,s.ov⟩:St).dn,.bool (⟨s.t+1,s.p,s.f,s.d,s.g,s.dn,s.ov⟩:St).ov]) (by simp[results, Tryz.results101,go_sem, *]) rfl ⟨rfl,?_⟩
 (with_reducible repeat first|assumption|exact bl0 _ _|refine blA ?_ _|(refine blS ?_ ?_ _;(simp<;>omega))|refine blD ?_|refine blN ?_ _|refine blF ?_ ‹_›)
structure Qhr(l:Lev)(A:Option Addr)(c:Nat)(A':Option Addr)(c':Nat)(t:Int)(p0 f0:V2)(d0 g0:Int)(dn:Bool)(d g:Int)(p f:V2)(w W:World):Prop where
 L:Bk W (w.heap.size+1) 42 #[.int .i64 l.id,.int .i64 l.ticks,.int .i64 l.start.x,.int .i64 l.start.y,.slice A l.walls.length c,.slice A' l.gates.length c',.int .i64 l.fin.lo.x,.int .i64 l.fin.lo.y,.int .i64 l.fin.hi.x,.int .i64 l.fin.hi.y,.int .i64 l.bans]
 S:Bk W (w.heap.size+1+1) 72 #[.int .i64 (t+1),.int .i64 p.x,.int .i64 p.y,.int .i64 f.x,.int .i64 f.y,.int .i64 d,.int .i64 g,.bool dn,.bool false]
 R:Bk W (w.heap.size+1+1+1) 72 #[.int .i64 0,.int .i64 0,.int .i64 0,.int .i64 0,.int .i64 0,.int .i64 0,.int .i64 0,.bool false,.bool false]
 O:Bk W (w.heap.size+1+1+1+1) 72 #[.int .i64 t,.int .i64 p0.x,.int .i64 p0.y,.int .i64 f0.x,.int .i64 f0.y,.int .i64 d0,.int .i64 g0,.bool dn,.bool false]
 B:Below w.heap.size w W
theorem QaG{K:Exit→Act→World→Prop}{e:Exit}{a:Act}{w0:World}(F:World→Prop)(h0:F w0)(h: ∀w1,F w1→K e a w1):K e a w0:=h w0 h0
structure Qhq(l:Lev)(A:Option Addr)(c:Nat)(A':Option Addr)(c':Nat)(t:Int)(dn:Bool)(d g:Int)(p f:V2)(w W:World):Prop where
 L:Bk W (w.heap.size+1) 42 #[.int .i64 l.id,.int .i64 l.ticks,.int .i64 l.start.x,.int .i64 l.start.y,.slice A l.walls.length c,.slice A' l.gates.length c',.int .i64 l.fin.lo.x,.int .i64 l.fin.lo.y,.int .i64 l.fin.hi.x,.int .i64 l.fin.hi.y,.int .i64 l.bans]
 S:Bk W (w.heap.size+1+1) 72 #[.int .i64 (t+1),.int .i64 p.x,.int .i64 p.y,.int .i64 f.x,.int .i64 f.y,.int .i64 d,.int .i64 g,.bool dn,.bool false]
 R:Bk W (w.heap.size+1+1+1) 72 #[.int .i64 0,.int .i64 0,.int .i64 0,.int .i64 0,.int .i64 0,.int .i64 0,.int .i64 0,.bool false,.bool false]
 B:Below w.heap.size w W
theorem QoF{l:Lev}{t:Int}{p f:V2}{d g:Int}{dn:Bool}{st pw:Int}{z:Bool}{dd:Int}{ff mm vv:V2}(h1:Qaz d st=dd)(h2:Zx f dd pw=ff)(h3:ZK l p ff=(mm,vv)):
 QR l ⟨t,p,f,d,g,dn,false⟩ ⟨st,pw,z⟩=if vOk mm then⟨t,mm,vv,dd,if Xg l g mm then g+1 else g,(if Xg l g mm then g+1 else g) == (l.gates.length:Int) && hasV l.fin mm,false⟩ else⟨t,p,f,d,g,dn,true⟩:=by
 subst h1
 subst h2
 unfold QR
 simp only[h3]
theorem QpH{l:Lev}{k:Nat}{x:Bx}{v:V2}(hx:l.gates[k]? =some x):Xg l (k:Int) v=hasV x v:=by
 unfold Xg
 rw[Int.toNat_natCast,hx]
 simp
theorem QpJ{l:Lev}{k:Nat}{v:V2}(hx:l.gates.length≤k):Xg l (k:Int) v=false:=by
 unfold Xg
 rw[Int.toNat_natCast,List.getElem?_eq_none hx]
theorem Qs7{l:Lev}{p f:V2}(hp:vOk p=true)(hf:fOk f):(-1002000≤(Zz l p f).1.x∧(Zz l p f).1.x≤1002000)∧(Zz l p f).1.y=p.y∧fOk (Zz l p f).2:=by
 obtain⟨f1,f2,f3,f4⟩:=JN hf
 obtain⟨p1,p2,p3,p4⟩:=ZO.1 hp
 unfold Zz
 split
 ·exact⟨⟨by simp only;omega,by simp only;omega⟩,rfl,hf⟩
 ·refine⟨⟨by simp only;omega,by simp only;omega⟩,rfl,Qdy hf ?_ (Nat.le_refl _)⟩
  simp only[Int.natAbs_neg]
  exact Qfd _ _
theorem Qs8{l:Lev}{p f:V2}(hp: -1002000≤p.x∧p.x≤1002000∧ -1000000≤p.y∧p.y≤1000000)(hf:fOk f):(ZY l p f).1.x=p.x∧(-1002000≤(ZY l p f).1.y∧(ZY l p f).1.y≤1002000)∧fOk (ZY l p f).2:=by
 obtain⟨f1,f2,f3,f4⟩:=JN hf
 unfold ZY
 split
 ·exact⟨rfl,⟨by simp only;omega,by simp only;omega⟩,hf⟩
 ·refine⟨rfl,⟨by simp only;omega,by simp only;omega⟩,Qdy hf (Nat.le_refl _) ?_⟩
  simp only[Int.natAbs_neg]
  exact Qfd _ _
theorem Qvw(st pw t d g:Int)(p f ff:V2)(dn ov:Bool)(w:World)(hf:fOk f)(h0:0≤d)(h1:d≤15)(hF:Zx f d pw=ff):
 Calls Sq.prog 114 #[.agg #[.int .i64 st,.int .i64 pw],.agg #[.int .i64 t,.int .i64 p.x,.int .i64 p.y,.int .i64 f.x,.int .i64 f.y,.int .i64 d,.int .i64 g,.bool dn,.bool ov]] w fun e w'=>e= .returned (.agg #[.int .i64 ff.x,.int .i64 ff.y])∧Below w.heap.size w w':=
 hF ▸ Qvv st pw ⟨t,p,f,d,g,dn,ov⟩ w hf h0 h1
theorem Qim(l:Lev)(x y:Int)(A A':Option Addr)(c c':Nat)(w:World)(h:Sl w 4 Qc A l.walls.length l.walls)(hn:(l.walls.length:Nat)≤9223372036854775807)(hw:XZ l.walls=true)(hx: -2000000≤x∧x≤2000000)(hy: -2000000≤y∧y≤2000000):
 Calls Sq.prog 42 #[.agg #[.int .i64 l.id,.int .i64 l.ticks,.int .i64 l.start.x,.int .i64 l.start.y,.slice A l.walls.length c,.slice A' l.gates.length c',.int .i64 l.fin.lo.x,.int .i64 l.fin.lo.y,.int .i64 l.fin.hi.x,.int .i64 l.fin.hi.y,.int .i64 l.bans],.agg #[.int .i64 x,.int .i64 y]] w fun e w'=>e= .returned (.bool (QY l ⟨x,y⟩))∧Below w.heap.size w w':=JF l ⟨x,y⟩ A A' c c' w h hn hw (by unfold bdV;simp only;omega)
set_option maxRecDepth 100000 in
set_option maxHeartbeats 1000000 in
theorem QoD(l:Lev)(s:St)(st pw:Int)(z:Bool)(A A':Option Addr)(c c':Nat)(w:World)(h:Sl w 4 Qc A l.walls.length l.walls)(h':Sl w 4 Qc A' l.gates.length l.gates)(hn:(l.walls.length:Nat)≤9223372036854775807)
 (hl:QE l=true)(hp:vOk s.p=true)(hf:fOk s.f)(hd0:0≤s.d)(hd1:s.d≤15)(hs0: -1≤st)(hs1:st≤1)(hg0:0≤s.g)(hg1:s.g≤3)(ht0:0≤s.t)(ht1:s.t≤1000)(hov:s.ov=false):
 Calls Sq.prog 102 #[.agg #[.int .i64 st,.int .i64 pw],.agg #[.int .i64 l.id,.int .i64 l.ticks,.int .i64 l.start.x,.int .i64 l.start.y,.slice A l.walls.length c,.slice A' l.gates.length c',.int .i64 l.fin.lo.x,.int .i64 l.fin.lo.y,.int .i64 l.fin.hi.x,.int .i64 l.fin.hi.y,.int .i64 l.bans],.agg #[.int .i64 s.t,.int .i64 s.p.x,.int .i64 s.p.y,.int .i64 s.f.x,.int .i64 s.f.y,.int .i64 s.d,.int .i64 s.g,.bool s.dn,.bool s.ov]] w fun e w'=>e= .returned (.agg #[.int .i64 (QR l (⟨s.t+1,s.p,s.f,s.d,s.g,s.dn,s.ov⟩:St) (⟨st,pw,z⟩:Inp)).t,.int .i64 (QR l (⟨s.t+1,s.p,s.f,s.d,s.g,s.dn,s.ov⟩:St) (⟨st,pw,z⟩:Inp)).p.x,.int .i64 (QR l (⟨s.t+1,s.p,s.f,s.d,s.g,s.dn,s.ov⟩:St) (⟨st,pw,z⟩:Inp)).p.y,.int .i64 (QR l (⟨s.t+1,s.p,s.f,s.d,s.g,s.dn,s.ov⟩:St) (⟨st,pw,z⟩:Inp)).f.x,.int .i64 (QR l (⟨s.t+1,s.p,s.f,s.d,s.g,s.dn,s.ov⟩:St) (⟨st,pw,z⟩:Inp)).f.y,.int .i64 (QR l (⟨s.t+1,s.p,s.f,s.d,s.g,s.dn,s.ov⟩:St) (⟨st,pw,z⟩:Inp)).d,.int .i64 (QR l (⟨s.t+1,s.p,s.f,s.d,s.g,s.dn,s.ov⟩:St) (⟨st,pw,z⟩:Inp)).g,.bool (QR l (⟨s.t+1,s.p,s.f,s.d,s.g,s.dn,s.ov⟩:St) (⟨st,pw,z⟩:Inp)).dn,.bool (QR l (⟨s.t+1,s.p,s.f,s.d,s.g,s.dn,s.ov⟩:St) (⟨st,pw,z⟩:Inp)).ov])∧Below w.heap.size w w':=by
 obtain⟨t,p,f,d,g,dn,ov⟩:=s
 simp only at*
 subst hov
 obtain⟨td0,td1⟩:=QlQ d st
 have hT:(d+st+16).tmod 16=Qaz d st:=by unfold Qaz;rw[Int.tmod_eq_emod_of_nonneg (by omega)]
 obtain⟨p1,p2,p3,p4⟩:=ZO.1 hp
 have hHW:Hid (XZ l.walls=true):=Lib.hid (by simp only[QE,Bool.and_eq_true] at hl;exact hl.2.2.2.2.1)
 have hHG:Hid (XZ l.gates=true):=Lib.hid (by simp only[QE,Bool.and_eq_true] at hl;exact hl.2.2.2.2.2.2.1)
 have hHF:Hid (bxOk l.fin=true):=Lib.hid (by simp only[QE,Bool.and_eq_true] at hl;exact hl.2.2.2.2.2.2.2.1)
 generalize hdd:Qaz d st=dd at*
 have Hdd:=Lib.hid hdd
 have hff:fOk (Zx f dd pw):=Qen _ _ hf
 obtain⟨q1,q2,q3,q4⟩:=JN hff
 generalize hF:Zx f dd pw=ff at*
 have HF:=Lib.hid hF
 clear hdd hF hl
 go_enter Sq.func102, Tryz.ntmps102
 go_wp2_with fail
 refine(Qvw st pw (t+1) dd g p f ff dn false _ hf td0 td1 HF.out).mono ?_
 rintro e w1 ⟨rfl,hb1⟩
 have L1:Bk w1 (w.heap.size+1) 42 #[.int .i64 l.id,.int .i64 l.ticks,.int .i64 l.start.x,.int .i64 l.start.y,.slice A l.walls.length c,.slice A' l.gates.length c',.int .i64 l.fin.lo.x,.int .i64 l.fin.lo.y,.int .i64 l.fin.hi.x,.int .i64 l.fin.hi.y,.int .i64 l.bans]:=Bk.later (by(repeat first|(with_reducible first|assumption|exact kN _ _ _ (by simp)|refine kA ?_ _|refine kD ?_|refine kW ?_ _|apply Bk.set'|refine kF ?_ (by simp<;>omega) _|refine kL ?_ ‹_›|refine kG ?_ ‹_› (by first|omega|simp<;>omega))|exact⟨by with_reducible rfl⟩|exact⟨by simp⟩)) hb1
 have S1:Bk w1 (w.heap.size+1+1) 72 #[.int .i64 (t+1),.int .i64 p.x,.int .i64 p.y,.int .i64 f.x,.int .i64 f.y,.int .i64 dd,.int .i64 g,.bool dn,.bool false]:=Bk.later (by(repeat first|(with_reducible first|assumption|exact kN _ _ _ (by simp)|refine kA ?_ _|refine kD ?_|refine kW ?_ _|apply Bk.set'|refine kF ?_ (by simp<;>omega) _|refine kL ?_ ‹_›|refine kG ?_ ‹_› (by first|omega|simp<;>omega))|exact⟨by with_reducible rfl⟩|exact⟨by simp⟩)) hb1
 have R1:Bk w1 (w.heap.size+1+1+1) 72 #[.int .i64 0,.int .i64 0,.int .i64 0,.int .i64 0,.int .i64 0,.int .i64 0,.int .i64 0,.bool false,.bool false]:=Bk.later (by(repeat first|(with_reducible first|assumption|exact kN _ _ _ (by simp)|refine kA ?_ _|refine kD ?_|refine kW ?_ _|apply Bk.set'|refine kF ?_ (by simp<;>omega) _|refine kL ?_ ‹_›|refine kG ?_ ‹_› (by first|omega|simp<;>omega))|exact⟨by with_reducible rfl⟩|exact⟨by simp⟩)) hb1
 have O1:Bk w1 (w.heap.size+1+1+1+1) 72 #[.int .i64 t,.int .i64 p.x,.int .i64 p.y,.int .i64 f.x,.int .i64 f.y,.int .i64 d,.int .i64 g,.bool dn,.bool false]:=Bk.later (by(repeat first|(with_reducible first|assumption|exact kN _ _ _ (by simp)|refine kA ?_ _|refine kD ?_|refine kW ?_ _|apply Bk.set'|refine kF ?_ (by simp<;>omega) _|refine kL ?_ ‹_›|refine kG ?_ ‹_› (by first|omega|simp<;>omega))|exact⟨by with_reducible rfl⟩|exact⟨by simp⟩)) hb1
 have B1:Below w.heap.size w w1:=by(with_reducible repeat first|exact bl0 _ _|refine blA ?_ _|(refine blS ?_ ?_ _;(simp<;>omega))|refine blD ?_|refine blN ?_ _|refine blF ?_ ‹_›)
 clear hb1
 have zL:=L1.lt;have zS:=S1.lt;have zR:=R1.lt;have zO:=O1.lt
 obtain⟨⟨l0,l1,l2,l3,l4,l5,l6,l7,l8,l9,l10⟩,lf⟩:=L1.c11;obtain⟨⟨s0,s1,s2,s3,s4,s5,s6,s7,s8⟩,sf⟩:=S1.c9
 go_upto_if 40 with(go_at_call 42;refine(Qim l (p.x+ff.x) p.y A A' c c' _ (h.below (by(with_reducible repeat first|assumption|exact bl0 _ _|refine blA ?_ _|(refine blS ?_ ?_ _;(simp<;>omega))|refine blD ?_|refine blN ?_ _|refine blF ?_ ‹_›))) hn hHW.out (by omega) (by omega)).mono ?_;rintro e w2 ⟨rfl,hb2⟩)
 have L2:Bk w2 (w.heap.size+1) 42 #[.int .i64 l.id,.int .i64 l.ticks,.int .i64 l.start.x,.int .i64 l.start.y,.slice A l.walls.length c,.slice A' l.gates.length c',.int .i64 l.fin.lo.x,.int .i64 l.fin.lo.y,.int .i64 l.fin.hi.x,.int .i64 l.fin.hi.y,.int .i64 l.bans]:=Bk.later (by(repeat first|(with_reducible first|assumption|exact kN _ _ _ (by simp)|refine kA ?_ _|refine kD ?_|refine kW ?_ _|apply Bk.set'|refine kF ?_ (by simp<;>omega) _|refine kL ?_ ‹_›|refine kG ?_ ‹_› (by first|omega|simp<;>omega))|exact⟨by with_reducible rfl⟩|exact⟨by simp⟩)) hb2
 have S2:Bk w2 (w.heap.size+1+1) 72 #[.int .i64 (t+1),.int .i64 p.x,.int .i64 p.y,.int .i64 ff.x,.int .i64 ff.y,.int .i64 dd,.int .i64 g,.bool dn,.bool false]:=Bk.later (by(repeat first|(with_reducible first|assumption|exact kN _ _ _ (by simp)|refine kA ?_ _|refine kD ?_|refine kW ?_ _|apply Bk.set'|refine kF ?_ (by simp<;>omega) _|refine kL ?_ ‹_›|refine kG ?_ ‹_› (by first|omega|simp<;>omega))|exact⟨by with_reducible rfl⟩|exact⟨by simp⟩)) hb2
 have R2:Bk w2 (w.heap.size+1+1+1) 72 #[.int .i64 0,.int .i64 0,.int .i64 0,.int .i64 0,.int .i64 0,.int .i64 0,.int .i64 0,.bool false,.bool false]:=Bk.later (by(repeat first|(with_reducible first|assumption|exact kN _ _ _ (by simp)|refine kA ?_ _|refine kD ?_|refine kW ?_ _|apply Bk.set'|refine kF ?_ (by simp<;>omega) _|refine kL ?_ ‹_›|refine kG ?_ ‹_› (by first|omega|simp<;>omega))|exact⟨by with_reducible rfl⟩|exact⟨by simp⟩)) hb2
 have O2:Bk w2 (w.heap.size+1+1+1+1) 72 #[.int .i64 t,.int .i64 p.x,.int .i64 p.y,.int .i64 f.x,.int .i64 f.y,.int .i64 d,.int .i64 g,.bool dn,.bool false]:=Bk.later (by(repeat first|(with_reducible first|assumption|exact kN _ _ _ (by simp)|refine kA ?_ _|refine kD ?_|refine kW ?_ _|apply Bk.set'|refine kF ?_ (by simp<;>omega) _|refine kL ?_ ‹_›|refine kG ?_ ‹_› (by first|omega|simp<;>omega))|exact⟨by with_reducible rfl⟩|exact⟨by simp⟩)) hb2
 have X2:Bk w2 w1.heap.size 37 #[.int .i64 (p.x+ff.x),.int .i64 p.y]:=Bk.later (by(repeat first|(with_reducible first|assumption|exact kN _ _ _ (by simp)|refine kA ?_ _|refine kD ?_|refine kW ?_ _|apply Bk.set'|refine kF ?_ (by simp<;>omega) _|refine kL ?_ ‹_›|refine kG ?_ ‹_› (by first|omega|simp<;>omega))|exact⟨by with_reducible rfl⟩|exact⟨by simp⟩)) hb2
 have B2:Below w.heap.size w w2:=by(with_reducible repeat first|assumption|exact bl0 _ _|refine blA ?_ _|(refine blS ?_ ?_ _;(simp<;>omega))|refine blD ?_|refine blN ?_ _|refine blF ?_ ‹_›)
 clear hb2 l0 l1 l2 l3 l4 l5 l6 l7 l8 l9 l10 lf s0 s1 s2 s3 s4 s5 s6 s7 s8 sf L1 S1 R1 O1 B1
 have yS:=S2.lt;have yX:=X2.lt
 obtain⟨mx1,mx2,mx3⟩:=Qs7 (l:=l) (p:=p) (f:=ff) hp hff
 have hMX: ∀b,QY l ⟨p.x+ff.x,p.y⟩=b→Zz l p ff=if b then(⟨p.x+ff.x,p.y⟩,ff) else(p,⟨-(ff.x.tdiv 2),ff.y⟩):=fun b e=>by unfold Zz;rw[e]
 go_cut [] from 10 (fun wc=>Qhr l A c A' c' t p f d g dn dd g (Zz l p ff).1 (Zz l p ff).2 w wc)
 case first=>
  obtain⟨⟨s0,s1,s2,s3,s4,s5,s6,s7,s8⟩,sf⟩:=S2.c9;obtain⟨⟨x0,x1⟩,xf⟩:=X2.c2
  cases hX:QY l ⟨p.x+ff.x,p.y⟩
  ·have HX:=Lib.hid (hMX _ hX)
   have ht2:=QbQ (a:=ff.x) (b:=2) (B:=2000) (by omega)
   have ht3:(-ff.x).tdiv 2= -(ff.x.tdiv 2):=Int.neg_tdiv ..
   clear hMX
   go_wp2
   go_meet
   case rel=>
    rw[HX.out]
    exact⟨by(repeat first|(with_reducible first|assumption|exact kN _ _ _ (by simp)|refine kA ?_ _|refine kD ?_|refine kW ?_ _|apply Bk.set'|refine kF ?_ (by simp<;>omega) _|refine kL ?_ ‹_›|refine kG ?_ ‹_› (by first|omega|simp<;>omega))|exact⟨by with_reducible rfl⟩|exact⟨by simp⟩),by(repeat first|(with_reducible first|assumption|exact kN _ _ _ (by simp)|refine kA ?_ _|refine kD ?_|refine kW ?_ _|apply Bk.set'|refine kF ?_ (by simp<;>omega) _|refine kL ?_ ‹_›|refine kG ?_ ‹_› (by first|omega|simp<;>omega))|exact⟨by with_reducible rfl⟩|exact⟨by simp⟩),by(repeat first|(with_reducible first|assumption|exact kN _ _ _ (by simp)|refine kA ?_ _|refine kD ?_|refine kW ?_ _|apply Bk.set'|refine kF ?_ (by simp<;>omega) _|refine kL ?_ ‹_›|refine kG ?_ ‹_› (by first|omega|simp<;>omega))|exact⟨by with_reducible rfl⟩|exact⟨by simp⟩),by(repeat first|(with_reducible first|assumption|exact kN _ _ _ (by simp)|refine kA ?_ _|refine kD ?_|refine kW ?_ _|apply Bk.set'|refine kF ?_ (by simp<;>omega) _|refine kL ?_ ‹_›|refine kG ?_ ‹_› (by first|omega|simp<;>omega))|exact⟨by with_reducible rfl⟩|exact⟨by simp⟩),by(with_reducible repeat first|assumption|exact bl0 _ _|refine blA ?_ _|(refine blS ?_ ?_ _;(simp<;>omega))|refine blD ?_|refine blN ?_ _|refine blF ?_ ‹_›)⟩
  ·have HX:=Lib.hid (hMX _ hX)
   clear hMX
   go_wp2
   go_meet
   case rel=>
    rw[HX.out]
    exact⟨by(repeat first|(with_reducible first|assumption|exact kN _ _ _ (by simp)|refine kA ?_ _|refine kD ?_|refine kW ?_ _|apply Bk.set'|refine kF ?_ (by simp<;>omega) _|refine kL ?_ ‹_›|refine kG ?_ ‹_› (by first|omega|simp<;>omega))|exact⟨by with_reducible rfl⟩|exact⟨by simp⟩),by(repeat first|(with_reducible first|assumption|exact kN _ _ _ (by simp)|refine kA ?_ _|refine kD ?_|refine kW ?_ _|apply Bk.set'|refine kF ?_ (by simp<;>omega) _|refine kL ?_ ‹_›|refine kG ?_ ‹_› (by first|omega|simp<;>omega))|exact⟨by with_reducible rfl⟩|exact⟨by simp⟩),by(repeat first|(with_reducible first|assumption|exact kN _ _ _ (by simp)|refine kA ?_ _|refine kD ?_|refine kW ?_ _|apply Bk.set'|refine kF ?_ (by simp<;>omega) _|refine kL ?_ ‹_›|refine kG ?_ ‹_› (by first|omega|simp<;>omega))|exact⟨by with_reducible rfl⟩|exact⟨by simp⟩),by(repeat first|(with_reducible first|assumption|exact kN _ _ _ (by simp)|refine kA ?_ _|refine kD ?_|refine kW ?_ _|apply Bk.set'|refine kF ?_ (by simp<;>omega) _|refine kL ?_ ‹_›|refine kG ?_ ‹_› (by first|omega|simp<;>omega))|exact⟨by with_reducible rfl⟩|exact⟨by simp⟩),by(with_reducible repeat first|assumption|exact bl0 _ _|refine blA ?_ _|(refine blS ?_ ?_ _;(simp<;>omega))|refine blD ?_|refine blN ?_ _|refine blF ?_ ‹_›)⟩
 case rest=>
  obtain⟨L3,S3,R3,O3,B3⟩:=hcut
  clear hMX L2 S2 R2 O2 X2 B2 yS yX zL zS zR zO
  have hMV:ZK l p ff=ZY l (Zz l p ff).1 (Zz l p ff).2:=rfl
  generalize Zz l p ff=mx at*
  obtain⟨m,v⟩:=mx
  simp only at*
  obtain⟨v1,v2,v3,v4⟩:=JN mx3
  have my0: -1000000≤m.y∧m.y≤1000000:=by omega
  obtain⟨my4,my5⟩:=my0
  obtain⟨mx4,mx5⟩:=mx1
  clear mx2
  have zL:=L3.lt;have zS:=S3.lt;have zR:=R3.lt;have zO:=O3.lt
  obtain⟨⟨l0,l1,l2,l3,l4,l5,l6,l7,l8,l9,l10⟩,lf⟩:=L3.c11;obtain⟨⟨s0,s1,s2,s3,s4,s5,s6,s7,s8⟩,sf⟩:=S3.c9
  go_upto_if 63 with(go_at_call 42;refine(Qim l m.x (m.y+v.y) A A' c c' _ (h.below (by(with_reducible repeat first|assumption|exact bl0 _ _|refine blA ?_ _|(refine blS ?_ ?_ _;(simp<;>omega))|refine blD ?_|refine blN ?_ _|refine blF ?_ ‹_›))) hn hHW.out (by omega) (by omega)).mono ?_;rintro e w4 ⟨rfl,hb4⟩)
  have L4:Bk w4 (w.heap.size+1) 42 #[.int .i64 l.id,.int .i64 l.ticks,.int .i64 l.start.x,.int .i64 l.start.y,.slice A l.walls.length c,.slice A' l.gates.length c',.int .i64 l.fin.lo.x,.int .i64 l.fin.lo.y,.int .i64 l.fin.hi.x,.int .i64 l.fin.hi.y,.int .i64 l.bans]:=Bk.later (by(repeat first|(with_reducible first|assumption|exact kN _ _ _ (by simp)|refine kA ?_ _|refine kD ?_|refine kW ?_ _|apply Bk.set'|refine kF ?_ (by simp<;>omega) _|refine kL ?_ ‹_›|refine kG ?_ ‹_› (by first|omega|simp<;>omega))|exact⟨by with_reducible rfl⟩|exact⟨by simp⟩)) hb4
  have S4:Bk w4 (w.heap.size+1+1) 72 #[.int .i64 (t+1),.int .i64 m.x,.int .i64 m.y,.int .i64 v.x,.int .i64 v.y,.int .i64 dd,.int .i64 g,.bool dn,.bool false]:=Bk.later (by(repeat first|(with_reducible first|assumption|exact kN _ _ _ (by simp)|refine kA ?_ _|refine kD ?_|refine kW ?_ _|apply Bk.set'|refine kF ?_ (by simp<;>omega) _|refine kL ?_ ‹_›|refine kG ?_ ‹_› (by first|omega|simp<;>omega))|exact⟨by with_reducible rfl⟩|exact⟨by simp⟩)) hb4
  have R4:Bk w4 (w.heap.size+1+1+1) 72 #[.int .i64 0,.int .i64 0,.int .i64 0,.int .i64 0,.int .i64 0,.int .i64 0,.int .i64 0,.bool false,.bool false]:=Bk.later (by(repeat first|(with_reducible first|assumption|exact kN _ _ _ (by simp)|refine kA ?_ _|refine kD ?_|refine kW ?_ _|apply Bk.set'|refine kF ?_ (by simp<;>omega) _|refine kL ?_ ‹_›|refine kG ?_ ‹_› (by first|omega|simp<;>omega))|exact⟨by with_reducible rfl⟩|exact⟨by simp⟩)) hb4
  have O4:Bk w4 (w.heap.size+1+1+1+1) 72 #[.int .i64 t,.int .i64 p.x,.int .i64 p.y,.int .i64 f.x,.int .i64 f.y,.int .i64 d,.int .i64 g,.bool dn,.bool false]:=Bk.later (by(repeat first|(with_reducible first|assumption|exact kN _ _ _ (by simp)|refine kA ?_ _|refine kD ?_|refine kW ?_ _|apply Bk.set'|refine kF ?_ (by simp<;>omega) _|refine kL ?_ ‹_›|refine kG ?_ ‹_› (by first|omega|simp<;>omega))|exact⟨by with_reducible rfl⟩|exact⟨by simp⟩)) hb4
  have X4:Bk w4 wc.heap.size 37 #[.int .i64 m.x,.int .i64 (m.y+v.y)]:=Bk.later (by(repeat first|(with_reducible first|assumption|exact kN _ _ _ (by simp)|refine kA ?_ _|refine kD ?_|refine kW ?_ _|apply Bk.set'|refine kF ?_ (by simp<;>omega) _|refine kL ?_ ‹_›|refine kG ?_ ‹_› (by first|omega|simp<;>omega))|exact⟨by with_reducible rfl⟩|exact⟨by simp⟩)) hb4
  have B4:Below w.heap.size w w4:=by(with_reducible repeat first|assumption|exact bl0 _ _|refine blA ?_ _|(refine blS ?_ ?_ _;(simp<;>omega))|refine blD ?_|refine blN ?_ _|refine blF ?_ ‹_›)
  clear hb4 l0 l1 l2 l3 l4 l5 l6 l7 l8 l9 l10 lf s0 s1 s2 s3 s4 s5 s6 s7 s8 sf L3 S3 R3 O3 B3
  have yS:=S4.lt;have yX:=X4.lt
  obtain⟨my1,⟨my2,my6⟩,my3⟩:=Qs8 (l:=l) (p:=m) (f:=v) (by omega) mx3
  have hMY: ∀b,QY l ⟨m.x,m.y+v.y⟩=b→ZY l m v=if b then(⟨m.x,m.y+v.y⟩,v) else(m,⟨v.x, -(v.y.tdiv 2)⟩):=fun b e=>by unfold ZY;rw[e]
  go_cut [] from 10 (fun wc=>Qhr l A c A' c' t p f d g dn dd g (ZY l m v).1 (ZY l m v).2 w wc)
  case first=>
   obtain⟨⟨s0,s1,s2,s3,s4,s5,s6,s7,s8⟩,sf⟩:=S4.c9;obtain⟨⟨x0,x1⟩,xf⟩:=X4.c2
   cases hY:QY l ⟨m.x,m.y+v.y⟩
   ·have HY:=Lib.hid (hMY _ hY)
    have ht2:=QbQ (a:=v.y) (b:=2) (B:=2000) (by omega)
    have ht3:(-v.y).tdiv 2= -(v.y.tdiv 2):=Int.neg_tdiv ..
    clear hMY
    go_wp2
    go_meet
    case rel=>
     rw[HY.out]
     exact⟨by(repeat first|(with_reducible first|assumption|exact kN _ _ _ (by simp)|refine kA ?_ _|refine kD ?_|refine kW ?_ _|apply Bk.set'|refine kF ?_ (by simp<;>omega) _|refine kL ?_ ‹_›|refine kG ?_ ‹_› (by first|omega|simp<;>omega))|exact⟨by with_reducible rfl⟩|exact⟨by simp⟩),by(repeat first|(with_reducible first|assumption|exact kN _ _ _ (by simp)|refine kA ?_ _|refine kD ?_|refine kW ?_ _|apply Bk.set'|refine kF ?_ (by simp<;>omega) _|refine kL ?_ ‹_›|refine kG ?_ ‹_› (by first|omega|simp<;>omega))|exact⟨by with_reducible rfl⟩|exact⟨by simp⟩),by(repeat first|(with_reducible first|assumption|exact kN _ _ _ (by simp)|refine kA ?_ _|refine kD ?_|refine kW ?_ _|apply Bk.set'|refine kF ?_ (by simp<;>omega) _|refine kL ?_ ‹_›|refine kG ?_ ‹_› (by first|omega|simp<;>omega))|exact⟨by with_reducible rfl⟩|exact⟨by simp⟩),by(repeat first|(with_reducible first|assumption|exact kN _ _ _ (by simp)|refine kA ?_ _|refine kD ?_|refine kW ?_ _|apply Bk.set'|refine kF ?_ (by simp<;>omega) _|refine kL ?_ ‹_›|refine kG ?_ ‹_› (by first|omega|simp<;>omega))|exact⟨by with_reducible rfl⟩|exact⟨by simp⟩),by(with_reducible repeat first|assumption|exact bl0 _ _|refine blA ?_ _|(refine blS ?_ ?_ _;(simp<;>omega))|refine blD ?_|refine blN ?_ _|refine blF ?_ ‹_›)⟩
   ·have HY:=Lib.hid (hMY _ hY)
    clear hMY
    go_wp2
    go_meet
    case rel=>
     rw[HY.out]
     exact⟨by(repeat first|(with_reducible first|assumption|exact kN _ _ _ (by simp)|refine kA ?_ _|refine kD ?_|refine kW ?_ _|apply Bk.set'|refine kF ?_ (by simp<;>omega) _|refine kL ?_ ‹_›|refine kG ?_ ‹_› (by first|omega|simp<;>omega))|exact⟨by with_reducible rfl⟩|exact⟨by simp⟩),by(repeat first|(with_reducible first|assumption|exact kN _ _ _ (by simp)|refine kA ?_ _|refine kD ?_|refine kW ?_ _|apply Bk.set'|refine kF ?_ (by simp<;>omega) _|refine kL ?_ ‹_›|refine kG ?_ ‹_› (by first|omega|simp<;>omega))|exact⟨by with_reducible rfl⟩|exact⟨by simp⟩),by(repeat first|(with_reducible first|assumption|exact kN _ _ _ (by simp)|refine kA ?_ _|refine kD ?_|refine kW ?_ _|apply Bk.set'|refine kF ?_ (by simp<;>omega) _|refine kL ?_ ‹_›|refine kG ?_ ‹_› (by first|omega|simp<;>omega))|exact⟨by with_reducible rfl⟩|exact⟨by simp⟩),by(repeat first|(with_reducible first|assumption|exact kN _ _ _ (by simp)|refine kA ?_ _|refine kD ?_|refine kW ?_ _|apply Bk.set'|refine kF ?_ (by simp<;>omega) _|refine kL ?_ ‹_›|refine kG ?_ ‹_› (by first|omega|simp<;>omega))|exact⟨by with_reducible rfl⟩|exact⟨by simp⟩),by(with_reducible repeat first|assumption|exact bl0 _ _|refine blA ?_ _|(refine blS ?_ ?_ _;(simp<;>omega))|refine blD ?_|refine blN ?_ _|refine blF ?_ ‹_›)⟩
  case rest=>
   obtain⟨L5,S5,R5,O5,B5⟩:=hcut
   clear hMY L4 S4 R4 O4 X4 B4 yS yX zL zS zR zO
   rw[←hMV] at S5
   have HDr:Hid (∀mm vv,ZK l p ff=(mm,vv)→QR l ⟨t+1,p,f,d,g,dn,false⟩ ⟨st,pw,z⟩=if vOk mm then⟨t+1,mm,vv,dd,if Xg l g mm then g+1 else g,(if Xg l g mm then g+1 else g) == (l.gates.length:Int) && hasV l.fin mm,false⟩ else⟨t+1,p,f,d,g,dn,true⟩):=Lib.hid (fun mm vv e=>QoF Hdd.out HF.out e)
   clear hMV my1 my2 my6 my3 my4 my5 mx4 mx5 mx3 v1 v2 v3 v4
   generalize hmv:ZK l p ff=mv at*
   obtain⟨mm,vv⟩:=mv
   simp only at L5 S5 R5 O5 B5
   have HD:=Lib.hid (HDr.out mm vv rfl)
   clear hmv HDr
   have zL:=L5.lt;have zS:=S5.lt;have zR:=R5.lt;have zO:=O5.lt
   obtain⟨⟨s0,s1,s2,s3,s4,s5,s6,s7,s8⟩,sf⟩:=S5.c9
   cases hV:vOk mm
   ·have HD2:=Lib.hid HD.out
    go_wp2_with fail
    refine(JG mm _).mono ?_
    rw[hV]
    rintro e w6 ⟨rfl,hb6⟩
    have R6:Bk w6 (w.heap.size+1+1+1) 72 #[.int .i64 0,.int .i64 0,.int .i64 0,.int .i64 0,.int .i64 0,.int .i64 0,.int .i64 0,.bool false,.bool false]:=Bk.later (by(repeat first|(with_reducible first|assumption|exact kN _ _ _ (by simp)|refine kA ?_ _|refine kD ?_|refine kW ?_ _|apply Bk.set'|refine kF ?_ (by simp<;>omega) _|refine kL ?_ ‹_›|refine kG ?_ ‹_› (by first|omega|simp<;>omega))|exact⟨by with_reducible rfl⟩|exact⟨by simp⟩)) hb6
    have O6:Bk w6 (w.heap.size+1+1+1+1) 72 #[.int .i64 t,.int .i64 p.x,.int .i64 p.y,.int .i64 f.x,.int .i64 f.y,.int .i64 d,.int .i64 g,.bool dn,.bool false]:=Bk.later (by(repeat first|(with_reducible first|assumption|exact kN _ _ _ (by simp)|refine kA ?_ _|refine kD ?_|refine kW ?_ _|apply Bk.set'|refine kF ?_ (by simp<;>omega) _|refine kL ?_ ‹_›|refine kG ?_ ‹_› (by first|omega|simp<;>omega))|exact⟨by with_reducible rfl⟩|exact⟨by simp⟩)) hb6
    have B6:Below w.heap.size w w6:=by(with_reducible repeat first|assumption|exact bl0 _ _|refine blA ?_ _|(refine blS ?_ ?_ _;(simp<;>omega))|refine blD ?_|refine blN ?_ _|refine blF ?_ ‹_›)
    clear hb6 s0 s1 s2 s3 s4 s5 s6 s7 s8 sf L5 S5 R5 O5 B5
    have yR:=R6.lt;have yO:=O6.lt
    obtain⟨⟨r0,r1,r2,r3,r4,r5,r6,r7,r8⟩,rf⟩:=R6.c9;obtain⟨⟨o0,o1,o2,o3,o4,o5,o6,o7,o8⟩,of⟩:=O6.c9
    go_wp2
    rw[HD2.out,hV]
    refine bodyPost_ret (v:= .agg #[.int .i64 (t+1),.int .i64 p.x,.int .i64 p.y,.int .i64 f.x,.int .i64 f.y,.int .i64 d,.int .i64 g,.bool dn,.bool true]) (by simp[results, Tryz.results102,go_sem, *]) rfl ⟨rfl,?_⟩
    (with_reducible repeat first|assumption|exact bl0 _ _|refine blA ?_ _|(refine blS ?_ ?_ _;(simp<;>omega))|refine blD ?_|refine blN ?_ _|refine blF ?_ ‹_›)
   ·go_wp2_with fail
    refine(JG mm _).mono ?_
    rw[hV]
    rintro e w6 ⟨rfl,hb6⟩
    have L6:Bk w6 (w.heap.size+1) 42 #[.int .i64 l.id,.int .i64 l.ticks,.int .i64 l.start.x,.int .i64 l.start.y,.slice A l.walls.length c,.slice A' l.gates.length c',.int .i64 l.fin.lo.x,.int .i64 l.fin.lo.y,.int .i64 l.fin.hi.x,.int .i64 l.fin.hi.y,.int .i64 l.bans]:=Bk.later (by(repeat first|(with_reducible first|assumption|exact kN _ _ _ (by simp)|refine kA ?_ _|refine kD ?_|refine kW ?_ _|apply Bk.set'|refine kF ?_ (by simp<;>omega) _|refine kL ?_ ‹_›|refine kG ?_ ‹_› (by first|omega|simp<;>omega))|exact⟨by with_reducible rfl⟩|exact⟨by simp⟩)) hb6
    have S6:Bk w6 (w.heap.size+1+1) 72 #[.int .i64 (t+1),.int .i64 mm.x,.int .i64 mm.y,.int .i64 vv.x,.int .i64 vv.y,.int .i64 dd,.int .i64 g,.bool dn,.bool false]:=Bk.later (by(repeat first|(with_reducible first|assumption|exact kN _ _ _ (by simp)|refine kA ?_ _|refine kD ?_|refine kW ?_ _|apply Bk.set'|refine kF ?_ (by simp<;>omega) _|refine kL ?_ ‹_›|refine kG ?_ ‹_› (by first|omega|simp<;>omega))|exact⟨by with_reducible rfl⟩|exact⟨by simp⟩)) hb6
    have R6:Bk w6 (w.heap.size+1+1+1) 72 #[.int .i64 0,.int .i64 0,.int .i64 0,.int .i64 0,.int .i64 0,.int .i64 0,.int .i64 0,.bool false,.bool false]:=Bk.later (by(repeat first|(with_reducible first|assumption|exact kN _ _ _ (by simp)|refine kA ?_ _|refine kD ?_|refine kW ?_ _|apply Bk.set'|refine kF ?_ (by simp<;>omega) _|refine kL ?_ ‹_›|refine kG ?_ ‹_› (by first|omega|simp<;>omega))|exact⟨by with_reducible rfl⟩|exact⟨by simp⟩)) hb6
    have O6:Bk w6 (w.heap.size+1+1+1+1) 72 #[.int .i64 t,.int .i64 p.x,.int .i64 p.y,.int .i64 f.x,.int .i64 f.y,.int .i64 d,.int .i64 g,.bool dn,.bool false]:=Bk.later (by(repeat first|(with_reducible first|assumption|exact kN _ _ _ (by simp)|refine kA ?_ _|refine kD ?_|refine kW ?_ _|apply Bk.set'|refine kF ?_ (by simp<;>omega) _|refine kL ?_ ‹_›|refine kG ?_ ‹_› (by first|omega|simp<;>omega))|exact⟨by with_reducible rfl⟩|exact⟨by simp⟩)) hb6
    have B6:Below w.heap.size w w6:=by(with_reducible repeat first|assumption|exact bl0 _ _|refine blA ?_ _|(refine blS ?_ ?_ _;(simp<;>omega))|refine blD ?_|refine blN ?_ _|refine blF ?_ ‹_›)
    clear hb6 s0 s1 s2 s3 s4 s5 s6 s7 s8 sf L5 S5 R5 O5 B5
    have yL:=L6.lt;have yS:=S6.lt
    obtain⟨⟨l0,l1,l2,l3,l4,l5,l6,l7,l8,l9,l10⟩,lf⟩:=L6.c11;obtain⟨⟨s0,s1,s2,s3,s4,s5,s6,s7,s8⟩,sf⟩:=S6.c9
    obtain⟨k,rfl⟩:=Int.eq_ofNat_of_zero_le hg0
    by_cases hgl:k<l.gates.length
    ·have hglI:(k:Int)<l.gates.length:=by omega
     obtain⟨b,off,x,rfl,hbl,hx,hcx⟩:=(h'.below B6).at_ hgl
     have hbx:bxOk x=true:=List.all_eq_true.1 hHG.out x (List.mem_of_getElem? hx)
     have q0:w6.cell? ⟨b,off+k*4,none⟩=some (.int .i64 x.lo.x):=hcx 0 _ rfl
     have q1:w6.cell? ⟨b,off+k*4+1,none⟩=some (.int .i64 x.lo.y):=hcx 1 _ rfl
     have q2:w6.cell? ⟨b,off+k*4+2,none⟩=some (.int .i64 x.hi.x):=hcx 2 _ rfl
     have q3:w6.cell? ⟨b,off+k*4+3,none⟩=some (.int .i64 x.hi.y):=hcx 3 _ rfl
     have HGB:=Lib.hid (QpH (v:=mm) hx)
     clear hx hcx
     go_wp2
     go_still_tail 15,(by kernel_rfl)
     change wpList _ _ _ _ _ w6.drew
     go_upto_if 99 with(go_at_call 115;refine(Qes x mm _ (QcP hbx)).mono ?_;rintro e w7 ⟨rfl,hb7⟩)
     have L7:Bk w7 (w.heap.size+1) 42 #[.int .i64 l.id,.int .i64 l.ticks,.int .i64 l.start.x,.int .i64 l.start.y,.slice A l.walls.length c,.slice (some ⟨b,off,none⟩) l.gates.length c',.int .i64 l.fin.lo.x,.int .i64 l.fin.lo.y,.int .i64 l.fin.hi.x,.int .i64 l.fin.hi.y,.int .i64 l.bans]:=Bk.later (by(repeat first|(with_reducible first|assumption|exact kN _ _ _ (by simp)|refine kA ?_ _|refine kD ?_|refine kW ?_ _|apply Bk.set'|refine kF ?_ (by simp<;>omega) _|refine kL ?_ ‹_›|refine kG ?_ ‹_› (by first|omega|simp<;>omega))|exact⟨by with_reducible rfl⟩|exact⟨by simp⟩)) hb7
     have S7:Bk w7 (w.heap.size+1+1) 72 #[.int .i64 (t+1),.int .i64 mm.x,.int .i64 mm.y,.int .i64 vv.x,.int .i64 vv.y,.int .i64 dd,.int .i64 (k:Int),.bool dn,.bool false]:=Bk.later (by(repeat first|(with_reducible first|assumption|exact kN _ _ _ (by simp)|refine kA ?_ _|refine kD ?_|refine kW ?_ _|apply Bk.set'|refine kF ?_ (by simp<;>omega) _|refine kL ?_ ‹_›|refine kG ?_ ‹_› (by first|omega|simp<;>omega))|exact⟨by with_reducible rfl⟩|exact⟨by simp⟩)) hb7
     have R7:Bk w7 (w.heap.size+1+1+1) 72 #[.int .i64 0,.int .i64 0,.int .i64 0,.int .i64 0,.int .i64 0,.int .i64 0,.int .i64 0,.bool false,.bool false]:=Bk.later (by(repeat first|(with_reducible first|assumption|exact kN _ _ _ (by simp)|refine kA ?_ _|refine kD ?_|refine kW ?_ _|apply Bk.set'|refine kF ?_ (by simp<;>omega) _|refine kL ?_ ‹_›|refine kG ?_ ‹_› (by first|omega|simp<;>omega))|exact⟨by with_reducible rfl⟩|exact⟨by simp⟩)) hb7
     have B7:Below w.heap.size w w7:=by(with_reducible repeat first|assumption|exact bl0 _ _|refine blA ?_ _|(refine blS ?_ ?_ _;(simp<;>omega))|refine blD ?_|refine blN ?_ _|refine blF ?_ ‹_›)
     clear hb7 l0 l1 l2 l3 l4 l5 l6 l7 l8 l9 l10 lf s0 s1 s2 s3 s4 s5 s6 s7 s8 sf L6 S6 R6 O6 B6 q0 q1 q2 q3 yL yS
     have yS:=S7.lt
     go_cut [] from 10 (fun wc=>∃g':Int,g'=(if hasV x mm then(k:Int)+1 else(k:Int))∧(0≤g'∧g'≤4)∧Qhq l A c (some ⟨b,off,none⟩) c' t dn dd g' mm vv w wc)
     case first=>
      obtain⟨⟨s0,s1,s2,s3,s4,s5,s6,s7,s8⟩,sf⟩:=S7.c9
      cases hH:hasV x mm
      ·go_wp2
       go_meet
       case rel=>exact⟨(k:Int),by simp[hH],⟨by omega,by omega⟩,L7,S7,R7,B7⟩
      ·go_wp2
       go_meet
       case rel=>exact⟨(k:Int)+1,by simp[hH],⟨by omega,by omega⟩,by(repeat first|(with_reducible first|assumption|exact kN _ _ _ (by simp)|refine kA ?_ _|refine kD ?_|refine kW ?_ _|apply Bk.set'|refine kF ?_ (by simp<;>omega) _|refine kL ?_ ‹_›|refine kG ?_ ‹_› (by first|omega|simp<;>omega))|exact⟨by with_reducible rfl⟩|exact⟨by simp⟩),by(repeat first|(with_reducible first|assumption|exact kN _ _ _ (by simp)|refine kA ?_ _|refine kD ?_|refine kW ?_ _|apply Bk.set'|refine kF ?_ (by simp<;>omega) _|refine kL ?_ ‹_›|refine kG ?_ ‹_› (by first|omega|simp<;>omega))|exact⟨by with_reducible rfl⟩|exact⟨by simp⟩),by(repeat first|(with_reducible first|assumption|exact kN _ _ _ (by simp)|refine kA ?_ _|refine kD ?_|refine kW ?_ _|apply Bk.set'|refine kF ?_ (by simp<;>omega) _|refine kL ?_ ‹_›|refine kG ?_ ‹_› (by first|omega|simp<;>omega))|exact⟨by with_reducible rfl⟩|exact⟨by simp⟩),by(with_reducible repeat first|assumption|exact bl0 _ _|refine blA ?_ _|(refine blS ?_ ?_ _;(simp<;>omega))|refine blD ?_|refine blN ?_ _|refine blF ?_ ‹_›)⟩
     case rest=>
      obtain⟨g',hg',⟨hg2,hg3⟩,L9,S9,R9,B9⟩:=hcut
      have HG':=Lib.hid hg'
      clear hg' L7 S7 R7 B7 yS
      have zL:=L9.lt;have zS:=S9.lt;have zR:=R9.lt
      obtain⟨⟨l0,l1,l2,l3,l4,l5,l6,l7,l8,l9,l10⟩,lf⟩:=L9.c11;obtain⟨⟨s0,s1,s2,s3,s4,s5,s6,s7,s8⟩,sf⟩:=S9.c9
      have HV:Hid (QR l ⟨t+1,p,f,d,(k:Int),dn,false⟩ ⟨st,pw,z⟩=⟨t+1,mm,vv,dd,g',(g' == (l.gates.length:Int)) && hasV l.fin mm,false⟩):=Lib.hid (by rw[HD.out,hV];simp only[if_true];rw[show(if Xg l (k:Int) mm=true then(k:Int)+1 else(k:Int))=g' by rw[HGB.out,HG'.out]])
      by_cases heq:g'=(l.gates.length:Int)
      ·have hbq:(g' == (l.gates.length:Int))=true:=by simpa using heq
       have HQ:=Lib.hid hbq
       clear heq
       go_wp2_with fail
       refine(Qes l.fin mm _ (QcP hHF.out)).mono ?_
       rintro e w8 ⟨rfl,hb8⟩
       have S8:Bk w8 (w.heap.size+1+1) 72 #[.int .i64 (t+1),.int .i64 mm.x,.int .i64 mm.y,.int .i64 vv.x,.int .i64 vv.y,.int .i64 dd,.int .i64 (g'),.bool dn,.bool false]:=Bk.later (by(repeat first|(with_reducible first|assumption|exact kN _ _ _ (by simp)|refine kA ?_ _|refine kD ?_|refine kW ?_ _|apply Bk.set'|refine kF ?_ (by simp<;>omega) _|refine kL ?_ ‹_›|refine kG ?_ ‹_› (by first|omega|simp<;>omega))|exact⟨by with_reducible rfl⟩|exact⟨by simp⟩)) hb8
       have R8:Bk w8 (w.heap.size+1+1+1) 72 #[.int .i64 0,.int .i64 0,.int .i64 0,.int .i64 0,.int .i64 0,.int .i64 0,.int .i64 0,.bool false,.bool false]:=Bk.later (by(repeat first|(with_reducible first|assumption|exact kN _ _ _ (by simp)|refine kA ?_ _|refine kD ?_|refine kW ?_ _|apply Bk.set'|refine kF ?_ (by simp<;>omega) _|refine kL ?_ ‹_›|refine kG ?_ ‹_› (by first|omega|simp<;>omega))|exact⟨by with_reducible rfl⟩|exact⟨by simp⟩)) hb8
       have B8:Below w.heap.size w w8:=by(with_reducible repeat first|assumption|exact bl0 _ _|refine blA ?_ _|(refine blS ?_ ?_ _;(simp<;>omega))|refine blD ?_|refine blN ?_ _|refine blF ?_ ‹_›)
       clear hb8 l0 l1 l2 l3 l4 l5 l6 l7 l8 l9 l10 lf s0 s1 s2 s3 s4 s5 s6 s7 s8 sf L9 S9 R9 zL zS zR
       have zS:=S8.lt;have zR:=R8.lt
       obtain⟨⟨s0,s1,s2,s3,s4,s5,s6,s7,s8⟩,sf⟩:=S8.c9;obtain⟨⟨r0,r1,r2,r3,r4,r5,r6,r7,r8⟩,rf⟩:=R8.c9
       go_wp2
       rw[HV.out,HQ.out]
       refine bodyPost_ret (v:= .agg #[.int .i64 (t+1),.int .i64 mm.x,.int .i64 mm.y,.int .i64 vv.x,.int .i64 vv.y,.int .i64 dd,.int .i64 (g'),.bool (hasV l.fin mm),.bool false]) (by simp[results, Tryz.results102,go_sem, *]) rfl ⟨by simp,?_⟩
       (with_reducible repeat first|assumption|exact bl0 _ _|refine blA ?_ _|(refine blS ?_ ?_ _;(simp<;>omega))|refine blD ?_|refine blN ?_ _|refine blF ?_ ‹_›)
      ·have hbq:(g' == (l.gates.length:Int))=false:=by simpa using heq
       have HQ:=Lib.hid hbq
       clear heq
       obtain⟨⟨r0,r1,r2,r3,r4,r5,r6,r7,r8⟩,rf⟩:=R9.c9
       go_wp2
       rw[HV.out,HQ.out]
       refine bodyPost_ret (v:= .agg #[.int .i64 (t+1),.int .i64 mm.x,.int .i64 mm.y,.int .i64 vv.x,.int .i64 vv.y,.int .i64 dd,.int .i64 (g'),.bool false,.bool false]) (by simp[results, Tryz.results102,go_sem, *]) rfl ⟨by simp,?_⟩
       (with_reducible repeat first|assumption|exact bl0 _ _|refine blA ?_ _|(refine blS ?_ ?_ _;(simp<;>omega))|refine blD ?_|refine blN ?_ _|refine blF ?_ ‹_›)
    ·have hglI: ¬((k:Int)<l.gates.length):=by omega
     have HGB:=Lib.hid (QpJ (v:=mm) (l:=l) (k:=k) (by omega))
     go_wp2
     go_quiet (fail)
     refine QaG (fun W=>Qhq l A c A' c' t dn dd (k:Int) mm vv w W) ⟨by(repeat first|(with_reducible first|assumption|exact kN _ _ _ (by simp)|refine kA ?_ _|refine kD ?_|refine kW ?_ _|apply Bk.set'|refine kF ?_ (by simp<;>omega) _|refine kL ?_ ‹_›|refine kG ?_ ‹_› (by first|omega|simp<;>omega))|exact⟨by with_reducible rfl⟩|exact⟨by simp⟩),by(repeat first|(with_reducible first|assumption|exact kN _ _ _ (by simp)|refine kA ?_ _|refine kD ?_|refine kW ?_ _|apply Bk.set'|refine kF ?_ (by simp<;>omega) _|refine kL ?_ ‹_›|refine kG ?_ ‹_› (by first|omega|simp<;>omega))|exact⟨by with_reducible rfl⟩|exact⟨by simp⟩),by(repeat first|(with_reducible first|assumption|exact kN _ _ _ (by simp)|refine kA ?_ _|refine kD ?_|refine kW ?_ _|apply Bk.set'|refine kF ?_ (by simp<;>omega) _|refine kL ?_ ‹_›|refine kG ?_ ‹_› (by first|omega|simp<;>omega))|exact⟨by with_reducible rfl⟩|exact⟨by simp⟩),by(with_reducible repeat first|assumption|exact bl0 _ _|refine blA ?_ _|(refine blS ?_ ?_ _;(simp<;>omega))|refine blD ?_|refine blN ?_ _|refine blF ?_ ‹_›)⟩ ?_
     rintro w9 ⟨L9,S9,R9,B9⟩
     clear l0 l1 l2 l3 l4 l5 l6 l7 l8 l9 l10 lf s0 s1 s2 s3 s4 s5 s6 s7 s8 sf L6 S6 R6 O6 B6 yL yS
     have zL:=L9.lt;have zS:=S9.lt;have zR:=R9.lt
     obtain⟨⟨l0,l1,l2,l3,l4,l5,l6,l7,l8,l9,l10⟩,lf⟩:=L9.c11;obtain⟨⟨s0,s1,s2,s3,s4,s5,s6,s7,s8⟩,sf⟩:=S9.c9
     have HV:Hid (QR l ⟨t+1,p,f,d,(k:Int),dn,false⟩ ⟨st,pw,z⟩=⟨t+1,mm,vv,dd,(k:Int),((k:Int) == (l.gates.length:Int)) && hasV l.fin mm,false⟩):=Lib.hid (by rw[HD.out,hV];simp only[if_true];rw[show(if Xg l (k:Int) mm=true then(k:Int)+1 else(k:Int))=(k:Int) by rw[HGB.out];rfl])
     by_cases heq:(k:Int)=(l.gates.length:Int)
     ·have hbq:((k:Int) == (l.gates.length:Int))=true:=by simpa using heq
      have HQ:=Lib.hid hbq
      clear heq
      go_wp2_with fail
      refine(Qes l.fin mm _ (QcP hHF.out)).mono ?_
      rintro e w8 ⟨rfl,hb8⟩
      have S8:Bk w8 (w.heap.size+1+1) 72 #[.int .i64 (t+1),.int .i64 mm.x,.int .i64 mm.y,.int .i64 vv.x,.int .i64 vv.y,.int .i64 dd,.int .i64 ((k:Int)),.bool dn,.bool false]:=Bk.later (by(repeat first|(with_reducible first|assumption|exact kN _ _ _ (by simp)|refine kA ?_ _|refine kD ?_|refine kW ?_ _|apply Bk.set'|refine kF ?_ (by simp<;>omega) _|refine kL ?_ ‹_›|refine kG ?_ ‹_› (by first|omega|simp<;>omega))|exact⟨by with_reducible rfl⟩|exact⟨by simp⟩)) hb8
      have R8:Bk w8 (w.heap.size+1+1+1) 72 #[.int .i64 0,.int .i64 0,.int .i64 0,.int .i64 0,.int .i64 0,.int .i64 0,.int .i64 0,.bool false,.bool false]:=Bk.later (by(repeat first|(with_reducible first|assumption|exact kN _ _ _ (by simp)|refine kA ?_ _|refine kD ?_|refine kW ?_ _|apply Bk.set'|refine kF ?_ (by simp<;>omega) _|refine kL ?_ ‹_›|refine kG ?_ ‹_› (by first|omega|simp<;>omega))|exact⟨by with_reducible rfl⟩|exact⟨by simp⟩)) hb8
      have B8:Below w.heap.size w w8:=by(with_reducible repeat first|assumption|exact bl0 _ _|refine blA ?_ _|(refine blS ?_ ?_ _;(simp<;>omega))|refine blD ?_|refine blN ?_ _|refine blF ?_ ‹_›)
      clear hb8 l0 l1 l2 l3 l4 l5 l6 l7 l8 l9 l10 lf s0 s1 s2 s3 s4 s5 s6 s7 s8 sf L9 S9 R9 zL zS zR
      have zS:=S8.lt;have zR:=R8.lt
      obtain⟨⟨s0,s1,s2,s3,s4,s5,s6,s7,s8⟩,sf⟩:=S8.c9;obtain⟨⟨r0,r1,r2,r3,r4,r5,r6,r7,r8⟩,rf⟩:=R8.c9
      go_wp2
      rw[HV.out,HQ.out]
      refine bodyPost_ret (v:= .agg #[.int .i64 (t+1),.int .i64 mm.x,.int .i64 mm.y,.int .i64 vv.x,.int .i64 vv.y,.int .i64 dd,.int .i64 ((k:Int)),.bool (hasV l.fin mm),.bool false]) (by simp[results, Tryz.results102,go_sem, *]) rfl ⟨by simp,?_⟩
      (with_reducible repeat first|assumption|exact bl0 _ _|refine blA ?_ _|(refine blS ?_ ?_ _;(simp<;>omega))|refine blD ?_|refine blN ?_ _|refine blF ?_ ‹_›)
     ·have hbq:((k:Int) == (l.gates.length:Int))=false:=by simpa using heq
      have HQ:=Lib.hid hbq
      clear heq
      obtain⟨⟨r0,r1,r2,r3,r4,r5,r6,r7,r8⟩,rf⟩:=R9.c9
      go_wp2
      rw[HV.out,HQ.out]
      refine bodyPost_ret (v:= .agg #[.int .i64 (t+1),.int .i64 mm.x,.int .i64 mm.y,.int .i64 vv.x,.int .i64 vv.y,.int .i64 dd,.int .i64 ((k:Int)),.bool false,.bool false]) (by simp[results, Tryz.results102,go_sem, *]) rfl ⟨by simp,?_⟩
      (with_reducible repeat first|assumption|exact bl0 _ _|refine blA ?_ _|(refine blS ?_ ?_ _;(simp<;>omega))|refine blD ?_|refine blN ?_ _|refine blF ?_ ‹_›)
end Go.Proofs.YtgaimkihacljdaaGreat
/- The program's after. (Round B) -/
namespace Go.Proofs.YtgaimkihacljdaaGreat
open Go.ChangeShapes Go.WideShapes Go.ChangeAt Go.RowKit
theorem Qop(xs xp:Int)(w:World):Calls Sq.prog 100 #[.agg #[.int .i64 xs,.int .i64 xp,.bool true]] w fun e w'=>e= .returned (.iface 152 (.agg #[]))∧Below w.heap.size w w':=by
 go_enter Sq.func100, Tryz.ntmps100
 go_wp2
 go_ret
 exact⟨rfl,by(with_reducible repeat first|assumption|exact bl0 _ _|refine blA ?_ _|(refine blS ?_ ?_ _;(simp<;>omega))|refine blD ?_|refine blN ?_ _|refine blF ?_ ‹_›)⟩
theorem Qoo(xs xp:Int)(w:World):Calls Sq.prog 100 #[.agg #[.int .i64 xs,.int .i64 xp,.bool false]] w fun e w'=>e= .returned (.iface 155 (.agg #[.int .i64 xs,.int .i64 xp]))∧Below w.heap.size w w':=by
 go_enter Sq.func100, Tryz.ntmps100
 go_wp2
 go_ret
 exact⟨rfl,by(with_reducible repeat first|assumption|exact bl0 _ _|refine blA ?_ _|(refine blS ?_ ?_ _;(simp<;>omega))|refine blD ?_|refine blN ?_ _|refine blF ?_ ‹_›)⟩
theorem QmN(w:World):(Instr.typeAssert (.iface 152 (.agg #[])) 150 152 true).run Sq.prog w= .ok (.tuple #[.agg #[],.bool true]) w:=by kernel_rfl
theorem QmM(w:World)(a b:Int):(Instr.typeAssert (.iface 155 (.agg #[.int .i64 a,.int .i64 b])) 150 152 true).run Sq.prog w= .ok (.tuple #[.agg #[],.bool false]) w:=by kernel_rfl
theorem QmL(w:World)(a b:Int):(Instr.typeAssert (.iface 155 (.agg #[.int .i64 a,.int .i64 b])) 150 155 true).run Sq.prog w= .ok (.tuple #[.agg #[.int .i64 a,.int .i64 b],.bool true]) w:=by kernel_rfl
set_option maxRecDepth 100000 in
set_option maxHeartbeats 2000000 in
theorem QmF(l:Lev)(s:St)(x:Inp)(A A':Option Addr)(c c':Nat)(w:World)(h:(s.dn || s.ov)=true):
 Calls Sq.prog 70 #[.agg #[.int .i64 l.id,.int .i64 l.ticks,.int .i64 l.start.x,.int .i64 l.start.y,.slice A l.walls.length c,.slice A' l.gates.length c',.int .i64 l.fin.lo.x,.int .i64 l.fin.lo.y,.int .i64 l.fin.hi.x,.int .i64 l.fin.hi.y,.int .i64 l.bans],.agg #[.int .i64 s.t,.int .i64 s.p.x,.int .i64 s.p.y,.int .i64 s.f.x,.int .i64 s.f.y,.int .i64 s.d,.int .i64 s.g,.bool s.dn,.bool s.ov],.agg #[.int .i64 x.s,.int .i64 x.p,.bool x.z]] w fun e w'=>e= .returned (.agg #[.int .i64 (Qr l s x).t,.int .i64 (Qr l s x).p.x,.int .i64 (Qr l s x).p.y,.int .i64 (Qr l s x).f.x,.int .i64 (Qr l s x).f.y,.int .i64 (Qr l s x).d,.int .i64 (Qr l s x).g,.bool (Qr l s x).dn,.bool (Qr l s x).ov])∧Below w.heap.size w w':=by
 have e:Qr l s x=s:=by unfold Qr;rw[h];rfl
 rw[e]
 clear e
 obtain⟨t,p,f,d,g,dn,ov⟩:=s
 simp only at*
 cases dn
 ·have hov:ov=true:=by simpa using h
  subst hov
  clear h
  go_enter Sq.func70, Tryz.ntmps70
  go_wp2
  refine bodyPost_ret (v:= .agg #[.int .i64 t,.int .i64 p.x,.int .i64 p.y,.int .i64 f.x,.int .i64 f.y,.int .i64 d,.int .i64 g,.bool false,.bool true]) (by simp[results, Tryz.results70,go_sem, *]) rfl ⟨rfl,?_⟩
  (with_reducible repeat first|assumption|exact bl0 _ _|refine blA ?_ _|(refine blS ?_ ?_ _;(simp<;>omega))|refine blD ?_|refine blN ?_ _|refine blF ?_ ‹_›)
 ·clear h
  go_enter Sq.func70, Tryz.ntmps70
  go_wp2
  refine bodyPost_ret (v:= .agg #[.int .i64 t,.int .i64 p.x,.int .i64 p.y,.int .i64 f.x,.int .i64 f.y,.int .i64 d,.int .i64 g,.bool true,.bool ov]) (by simp[results, Tryz.results70,go_sem, *]) rfl ⟨rfl,?_⟩
  (with_reducible repeat first|assumption|exact bl0 _ _|refine blA ?_ _|(refine blS ?_ ?_ _;(simp<;>omega))|refine blD ?_|refine blN ?_ _|refine blF ?_ ‹_›)
set_option maxRecDepth 100000 in
set_option maxHeartbeats 2000000 in
theorem QmE(l:Lev)(s:St)(x:Inp)(A A':Option Addr)(c c':Nat)(w:World)(hdn:s.dn=false)(hov:s.ov=false)(hz:x.z=true)(ht:0≤s.t∧s.t≤1000):
 Calls Sq.prog 70 #[.agg #[.int .i64 l.id,.int .i64 l.ticks,.int .i64 l.start.x,.int .i64 l.start.y,.slice A l.walls.length c,.slice A' l.gates.length c',.int .i64 l.fin.lo.x,.int .i64 l.fin.lo.y,.int .i64 l.fin.hi.x,.int .i64 l.fin.hi.y,.int .i64 l.bans],.agg #[.int .i64 s.t,.int .i64 s.p.x,.int .i64 s.p.y,.int .i64 s.f.x,.int .i64 s.f.y,.int .i64 s.d,.int .i64 s.g,.bool s.dn,.bool s.ov],.agg #[.int .i64 x.s,.int .i64 x.p,.bool x.z]] w fun e w'=>e= .returned (.agg #[.int .i64 (Qr l s x).t,.int .i64 (Qr l s x).p.x,.int .i64 (Qr l s x).p.y,.int .i64 (Qr l s x).f.x,.int .i64 (Qr l s x).f.y,.int .i64 (Qr l s x).d,.int .i64 (Qr l s x).g,.bool (Qr l s x).dn,.bool (Qr l s x).ov])∧Below w.heap.size w w':=by
 have e:Qr l s x=⟨s.t+1,s.p,s.f,s.d,s.g,s.dn,s.ov⟩:=by unfold Qr;rw[hdn,hov,hz];rfl
 rw[e]
 clear e
 obtain⟨t,p,f,d,g,dn,ov⟩:=s
 simp only at*
 subst hdn hov
 obtain⟨xs,xp,xz⟩:=x
 simp only at*
 subst hz
 obtain⟨t0,t1⟩:=ht
 have q1:=QmN
 go_enter Sq.func70, Tryz.ntmps70
 go_wp2_with fail
 refine(Qop xs xp _).mono ?_
 rintro e w1 ⟨rfl,hb1⟩
 have L1:Bk w1 w.heap.size 42 #[.int .i64 l.id,.int .i64 l.ticks,.int .i64 l.start.x,.int .i64 l.start.y,.slice A l.walls.length c,.slice A' l.gates.length c',.int .i64 l.fin.lo.x,.int .i64 l.fin.lo.y,.int .i64 l.fin.hi.x,.int .i64 l.fin.hi.y,.int .i64 l.bans]:=Bk.later (by(repeat first|(with_reducible first|assumption|exact kN _ _ _ (by simp)|refine kA ?_ _|refine kD ?_|refine kW ?_ _|apply Bk.set'|refine kF ?_ (by simp<;>omega) _|refine kL ?_ ‹_›|refine kG ?_ ‹_› (by first|omega|simp<;>omega))|exact⟨by with_reducible rfl⟩|exact⟨by simp⟩)) hb1
 have S1:Bk w1 (w.heap.size+1) 72 #[.int .i64 t,.int .i64 p.x,.int .i64 p.y,.int .i64 f.x,.int .i64 f.y,.int .i64 d,.int .i64 g,.bool false,.bool false]:=Bk.later (by(repeat first|(with_reducible first|assumption|exact kN _ _ _ (by simp)|refine kA ?_ _|refine kD ?_|refine kW ?_ _|apply Bk.set'|refine kF ?_ (by simp<;>omega) _|refine kL ?_ ‹_›|refine kG ?_ ‹_› (by first|omega|simp<;>omega))|exact⟨by with_reducible rfl⟩|exact⟨by simp⟩)) hb1
 have R1:Bk w1 (w.heap.size+1+1+1) 72 #[.int .i64 0,.int .i64 0,.int .i64 0,.int .i64 0,.int .i64 0,.int .i64 0,.int .i64 0,.bool false,.bool false]:=Bk.later (by(repeat first|(with_reducible first|assumption|exact kN _ _ _ (by simp)|refine kA ?_ _|refine kD ?_|refine kW ?_ _|apply Bk.set'|refine kF ?_ (by simp<;>omega) _|refine kL ?_ ‹_›|refine kG ?_ ‹_› (by first|omega|simp<;>omega))|exact⟨by with_reducible rfl⟩|exact⟨by simp⟩)) hb1
 have B1:Below w.heap.size w w1:=by(with_reducible repeat first|assumption|exact bl0 _ _|refine blA ?_ _|(refine blS ?_ ?_ _;(simp<;>omega))|refine blD ?_|refine blN ?_ _|refine blF ?_ ‹_›)
 clear hb1
 have zL:=L1.lt;have zS:=S1.lt;have zR:=R1.lt
 obtain⟨⟨l0,l1,l2,l3,l4,l5,l6,l7,l8,l9,l10⟩,lf⟩:=L1.c11;obtain⟨⟨s0,s1,s2,s3,s4,s5,s6,s7,s8⟩,sf⟩:=S1.c9
 go_wp2_with fail
 refine(Qty l (⟨t,p,f,d,g,false,false⟩:St) A A' c c' _ ⟨t0,t1⟩).mono ?_
 rintro e w2 ⟨rfl,hb2⟩
 have R2:Bk w2 (w.heap.size+1+1+1) 72 #[.int .i64 0,.int .i64 0,.int .i64 0,.int .i64 0,.int .i64 0,.int .i64 0,.int .i64 0,.bool false,.bool false]:=Bk.later (by(repeat first|(with_reducible first|assumption|exact kN _ _ _ (by simp)|refine kA ?_ _|refine kD ?_|refine kW ?_ _|apply Bk.set'|refine kF ?_ (by simp<;>omega) _|refine kL ?_ ‹_›|refine kG ?_ ‹_› (by first|omega|simp<;>omega))|exact⟨by with_reducible rfl⟩|exact⟨by simp⟩)) hb2
 have B2:Below w.heap.size w w2:=by(with_reducible repeat first|assumption|exact bl0 _ _|refine blA ?_ _|(refine blS ?_ ?_ _;(simp<;>omega))|refine blD ?_|refine blN ?_ _|refine blF ?_ ‹_›)
 clear hb2 l0 l1 l2 l3 l4 l5 l6 l7 l8 l9 l10 lf s0 s1 s2 s3 s4 s5 s6 s7 s8 sf L1 S1 R1 B1
 have zR:=R2.lt
 obtain⟨⟨r0,r1,r2,r3,r4,r5,r6,r7,r8⟩,rf⟩:=R2.c9
 go_wp2
 refine bodyPost_ret (v:= .agg #[.int .i64 (t+1),.int .i64 p.x,.int .i64 p.y,.int .i64 f.x,.int .i64 f.y,.int .i64 d,.int .i64 g,.bool false,.bool false]) (by simp[results, Tryz.results70,go_sem, *]) rfl ⟨rfl,?_⟩
 (with_reducible repeat first|assumption|exact bl0 _ _|refine blA ?_ _|(refine blS ?_ ?_ _;(simp<;>omega))|refine blD ?_|refine blN ?_ _|refine blF ?_ ‹_›)
theorem QoE(l:Lev)(t:Int)(p f:V2)(d g:Int)(dn:Bool)(st pw:Int)(z:Bool)(ds:St)(A A':Option Addr)(c c':Nat)(w:World)(h:Sl w 4 Qc A l.walls.length l.walls)(h':Sl w 4 Qc A' l.gates.length l.gates)(hn:(l.walls.length:Nat)≤9223372036854775807)
 (hl:QE l=true)(hp:vOk p=true)(hf:fOk f)(hd0:0≤d)(hd1:d≤15)(hs0: -1≤st)(hs1:st≤1)(hg0:0≤g)(hg1:g≤3)(ht0:0≤t)(ht1:t≤1000)(hds:QR l ⟨t+1,p,f,d,g,dn,false⟩ ⟨st,pw,z⟩=ds):
 Calls Sq.prog 102 #[.agg #[.int .i64 st,.int .i64 pw],.agg #[.int .i64 l.id,.int .i64 l.ticks,.int .i64 l.start.x,.int .i64 l.start.y,.slice A l.walls.length c,.slice A' l.gates.length c',.int .i64 l.fin.lo.x,.int .i64 l.fin.lo.y,.int .i64 l.fin.hi.x,.int .i64 l.fin.hi.y,.int .i64 l.bans],.agg #[.int .i64 t,.int .i64 p.x,.int .i64 p.y,.int .i64 f.x,.int .i64 f.y,.int .i64 d,.int .i64 g,.bool dn,.bool false]] w fun e w'=>e= .returned (.agg #[.int .i64 ds.t,.int .i64 ds.p.x,.int .i64 ds.p.y,.int .i64 ds.f.x,.int .i64 ds.f.y,.int .i64 ds.d,.int .i64 ds.g,.bool ds.dn,.bool ds.ov])∧Below w.heap.size w w':=by
 subst hds
 exact QoD l (⟨t,p,f,d,g,dn,false⟩:St) st pw z A A' c c' w h h' hn hl hp hf hd0 hd1 hs0 hs1 hg0 hg1 ht0 ht1 rfl
set_option maxRecDepth 100000 in
set_option maxHeartbeats 2000000 in
theorem QmC(l:Lev)(s:St)(x:Inp)(A A':Option Addr)(c c':Nat)(w:World)(h:Sl w 4 Qc A l.walls.length l.walls)(h':Sl w 4 Qc A' l.gates.length l.gates)(hn:(l.walls.length:Nat)≤9223372036854775807)
 (hl:QE l=true)(hp:vOk s.p=true)(hf:fOk s.f)(hd0:0≤s.d)(hd1:s.d≤15)(hs0: -1≤x.s)(hs1:x.s≤1)(hg0:0≤s.g)(hg1:s.g≤3)(ht0:0≤s.t)(ht1:s.t≤1000)(hdn:s.dn=false)(hov:s.ov=false)(hz:x.z=false):
 Calls Sq.prog 70 #[.agg #[.int .i64 l.id,.int .i64 l.ticks,.int .i64 l.start.x,.int .i64 l.start.y,.slice A l.walls.length c,.slice A' l.gates.length c',.int .i64 l.fin.lo.x,.int .i64 l.fin.lo.y,.int .i64 l.fin.hi.x,.int .i64 l.fin.hi.y,.int .i64 l.bans],.agg #[.int .i64 s.t,.int .i64 s.p.x,.int .i64 s.p.y,.int .i64 s.f.x,.int .i64 s.f.y,.int .i64 s.d,.int .i64 s.g,.bool s.dn,.bool s.ov],.agg #[.int .i64 x.s,.int .i64 x.p,.bool x.z]] w fun e w'=>e= .returned (.agg #[.int .i64 (Qr l s x).t,.int .i64 (Qr l s x).p.x,.int .i64 (Qr l s x).p.y,.int .i64 (Qr l s x).f.x,.int .i64 (Qr l s x).f.y,.int .i64 (Qr l s x).d,.int .i64 (Qr l s x).g,.bool (Qr l s x).dn,.bool (Qr l s x).ov])∧Below w.heap.size w w':=by
 have e:Qr l s x=QR l ⟨s.t+1,s.p,s.f,s.d,s.g,s.dn,s.ov⟩ x:=by unfold Qr;rw[hdn,hov,hz];rfl
 rw[e]
 clear e
 obtain⟨t,p,f,d,g,dn,ov⟩:=s
 simp only at*
 subst hdn hov
 obtain⟨xs,xp,xz⟩:=x
 simp only at*
 subst hz
 obtain⟨ds,hds⟩: ∃ds,QR l ⟨t+1,p,f,d,g,false,false⟩ ⟨xs,xp,false⟩=ds:=⟨_,rfl⟩
 rw[hds]
 have HDS:=Lib.hid hds
 clear hds
 have q1:=QmM
 have q2:=QmL
 go_enter Sq.func70, Tryz.ntmps70
 go_wp2_with fail
 refine(Qoo xs xp _).mono ?_
 rintro e w1 ⟨rfl,hb1⟩
 have L1:Bk w1 w.heap.size 42 #[.int .i64 l.id,.int .i64 l.ticks,.int .i64 l.start.x,.int .i64 l.start.y,.slice A l.walls.length c,.slice A' l.gates.length c',.int .i64 l.fin.lo.x,.int .i64 l.fin.lo.y,.int .i64 l.fin.hi.x,.int .i64 l.fin.hi.y,.int .i64 l.bans]:=Bk.later (by(repeat first|(with_reducible first|assumption|exact kN _ _ _ (by simp)|refine kA ?_ _|refine kD ?_|refine kW ?_ _|apply Bk.set'|refine kF ?_ (by simp<;>omega) _|refine kL ?_ ‹_›|refine kG ?_ ‹_› (by first|omega|simp<;>omega))|exact⟨by with_reducible rfl⟩|exact⟨by simp⟩)) hb1
 have S1:Bk w1 (w.heap.size+1) 72 #[.int .i64 t,.int .i64 p.x,.int .i64 p.y,.int .i64 f.x,.int .i64 f.y,.int .i64 d,.int .i64 g,.bool false,.bool false]:=Bk.later (by(repeat first|(with_reducible first|assumption|exact kN _ _ _ (by simp)|refine kA ?_ _|refine kD ?_|refine kW ?_ _|apply Bk.set'|refine kF ?_ (by simp<;>omega) _|refine kL ?_ ‹_›|refine kG ?_ ‹_› (by first|omega|simp<;>omega))|exact⟨by with_reducible rfl⟩|exact⟨by simp⟩)) hb1
 have R1:Bk w1 (w.heap.size+1+1+1) 72 #[.int .i64 0,.int .i64 0,.int .i64 0,.int .i64 0,.int .i64 0,.int .i64 0,.int .i64 0,.bool false,.bool false]:=Bk.later (by(repeat first|(with_reducible first|assumption|exact kN _ _ _ (by simp)|refine kA ?_ _|refine kD ?_|refine kW ?_ _|apply Bk.set'|refine kF ?_ (by simp<;>omega) _|refine kL ?_ ‹_›|refine kG ?_ ‹_› (by first|omega|simp<;>omega))|exact⟨by with_reducible rfl⟩|exact⟨by simp⟩)) hb1
 have B1:Below w.heap.size w w1:=by(with_reducible repeat first|assumption|exact bl0 _ _|refine blA ?_ _|(refine blS ?_ ?_ _;(simp<;>omega))|refine blD ?_|refine blN ?_ _|refine blF ?_ ‹_›)
 clear hb1
 have zL:=L1.lt;have zS:=S1.lt;have zR:=R1.lt
 obtain⟨⟨l0,l1,l2,l3,l4,l5,l6,l7,l8,l9,l10⟩,lf⟩:=L1.c11;obtain⟨⟨s0,s1,s2,s3,s4,s5,s6,s7,s8⟩,sf⟩:=S1.c9
 go_wp2_with fail
 refine(QoE l t p f d g false xs xp false ds A A' c c' _ (h.below (by(with_reducible repeat first|assumption|exact bl0 _ _|refine blA ?_ _|(refine blS ?_ ?_ _;(simp<;>omega))|refine blD ?_|refine blN ?_ _|refine blF ?_ ‹_›))) (h'.below (by(with_reducible repeat first|assumption|exact bl0 _ _|refine blA ?_ _|(refine blS ?_ ?_ _;(simp<;>omega))|refine blD ?_|refine blN ?_ _|refine blF ?_ ‹_›))) hn hl hp hf hd0 hd1 hs0 hs1 hg0 hg1 ht0 ht1 HDS.out).mono ?_
 rintro e w2 ⟨rfl,hb2⟩
 have R2:Bk w2 (w.heap.size+1+1+1) 72 #[.int .i64 0,.int .i64 0,.int .i64 0,.int .i64 0,.int .i64 0,.int .i64 0,.int .i64 0,.bool false,.bool false]:=Bk.later (by(repeat first|(with_reducible first|assumption|exact kN _ _ _ (by simp)|refine kA ?_ _|refine kD ?_|refine kW ?_ _|apply Bk.set'|refine kF ?_ (by simp<;>omega) _|refine kL ?_ ‹_›|refine kG ?_ ‹_› (by first|omega|simp<;>omega))|exact⟨by with_reducible rfl⟩|exact⟨by simp⟩)) hb2
 have B2:Below w.heap.size w w2:=by(with_reducible repeat first|assumption|exact bl0 _ _|refine blA ?_ _|(refine blS ?_ ?_ _;(simp<;>omega))|refine blD ?_|refine blN ?_ _|refine blF ?_ ‹_›)
 clear hb2 l0 l1 l2 l3 l4 l5 l6 l7 l8 l9 l10 lf s0 s1 s2 s3 s4 s5 s6 s7 s8 sf L1 S1 R1 B1
 have zR:=R2.lt
 obtain⟨⟨r0,r1,r2,r3,r4,r5,r6,r7,r8⟩,rf⟩:=R2.c9
 go_wp2
 refine bodyPost_ret (v:= .agg #[.int .i64 ds.t,.int .i64 ds.p.x,.int .i64 ds.p.y,.int .i64 ds.f.x,.int .i64 ds.f.y,.int .i64 ds.d,.int .i64 ds.g,.bool ds.dn,.bool ds.ov]) (by simp[results, Tryz.results70,go_sem, *]) rfl ⟨rfl,?_⟩
 (with_reducible repeat first|assumption|exact bl0 _ _|refine blA ?_ _|(refine blS ?_ ?_ _;(simp<;>omega))|refine blD ?_|refine blN ?_ _|refine blF ?_ ‹_›)
end Go.Proofs.YtgaimkihacljdaaGreat
