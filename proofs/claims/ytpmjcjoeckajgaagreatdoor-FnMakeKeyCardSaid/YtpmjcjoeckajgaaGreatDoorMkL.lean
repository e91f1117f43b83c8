/- What the laws of made replays lean on: sameReplay, what a made replay is. (Round B, seat Z) -/
import Derived.Test.YtpmjcjoeckajgaaGreatDoorImpW
import Derived.Test.YtpmjcjoeckajgaaGreatDoorRunR
namespace Go.Proofs.YtpmjcjoeckajgaaGreatDoor
open Go.ChangeShapes Go.WideShapes Go.ChangeAt Go.RowKit
theorem Qec.flip{r:Rep}{b:Bool}{w w':World}{e:Ending}(h:Qec r b w e w'): ∃A c A' c',e= .returned (.tuple #[.agg #[.int .i64 r.lv,.int .i64 r.pl,.int .i64 r.sc,.slice A r.ins.length c,.slice A' r.hs.length c',.int .i64 r.tag],.bool b])∧Own w' w.heap.size 39 3 Qd (.slice A r.ins.length c) r.ins∧Own w' w.heap.size 3 1 Qe (.slice A' r.hs.length c') r.hs∧
 (∀g g',(Value.slice A r.ins.length c).ownBlock=some g→(Value.slice A' r.hs.length c').ownBlock=some g'→g≠g')∧Below w.heap.size w w':=by
 obtain⟨A,c,A',c',h1,h2,h3,h4,h5⟩:=h
 exact⟨A,c,A',c',h1,h2,h3,h5,h4⟩
theorem Zt{W w':World}{g:Nat}{t:TypeId}{v0 v1 v2 v3 v4 v5:Value}(h:Bk W g t #[v0,v1,v2,v3,v4,v5])(hb:Below W.heap.size W w'):
 w'.cell? ⟨g,0,none⟩=some v0∧w'.cell? ⟨g,1,none⟩=some v1∧w'.cell? ⟨g,2,none⟩=some v2∧w'.cell? ⟨g,3,none⟩=some v3∧w'.cell? ⟨g,4,none⟩=some v4∧w'.cell? ⟨g,5,none⟩=some v5:=(h.later hb).c6.1
theorem Qcn{l:Lev}{pl key:Int}{ins:List Inp}(h:ZJ l pl key ins=true): ∃(mx:Int) (hs:List Int) (tg:Int),Zu l pl key ins=⟨l.id,pl,mx,ins,hs,tg⟩∧mx=max (QB l ins) 0∧hs=Qq l ins∧tagL key (QK ⟨l.id,pl,mx,ins,hs,tg⟩)=tg∧QL ⟨l.id,pl,mx,ins,hs,tg⟩=true∧ins.length≤60∧hs.length≤12:=by
 obtain⟨h1,h2,h3⟩:=JS.1 h
 have hk:Zu l pl key ins=Zv l pl key ins:=by unfold Zu;rw[h];rfl
 have hr:=QeL h
 have h60:=(Zp h1).2.1
 have hl:=Qbu h1
 exact⟨_,_,_,hk,rfl,rfl,rfl,hr,h60,by omega⟩
theorem Qdb{l:Lev}{pl key:Int}{ins:List Inp}(h:ZJ l pl key ins=false):(Zu l pl key ins).ins.length≤60∧(Zu l pl key ins).hs.length≤12:=by
 have hk:Zu l pl key ins=Qd6:=by unfold Zu;rw[h];rfl
 rw[hk];exact⟨Nat.zero_le _,Nat.zero_le _⟩
theorem Jp(r:Rep)(A A' B B':Option Addr)(c c' d d':Nat)(w:World)(h:Sl w 3 Qd A r.ins.length r.ins)(h':Sl w 1 Qe A' r.hs.length r.hs)(g:Sl w 3 Qd B r.ins.length r.ins)(g':Sl w 1 Qe B' r.hs.length r.hs)(hn:r.ins.length≤2097152)(hn':r.hs.length≤2097152):
 Calls Sq.prog 20 #[.agg #[.int .i64 r.lv,.int .i64 r.pl,.int .i64 r.sc,.slice A r.ins.length c,.slice A' r.hs.length c',.int .i64 r.tag],.agg #[.int .i64 r.lv,.int .i64 r.pl,.int .i64 r.sc,.slice B r.ins.length d,.slice B' r.hs.length d',.int .i64 r.tag]] w fun e w'=>e= .returned (.bool (true))∧Below w.heap.size w w':=by
 go_enter Sq.func20, Tryz.ntmps20
 go_wp2_with fail
 refine(QeX A B _ _ c d r.ins r.ins _ (h.below (by(with_reducible repeat first|assumption|apply bl0|apply blA|apply blD|apply blN|refine blF ?_ ‹_›|(apply blS;(simp<;>omega))))) (g.below (by(with_reducible repeat first|assumption|apply bl0|apply blA|apply blD|apply blN|refine blF ?_ ‹_›|(apply blS;(simp<;>omega))))) hn hn).mono ?_
 rw[(XD XN r.ins r.ins).2 rfl]
 rintro e w1 ⟨rfl,hb1⟩
 obtain⟨R1,Q1⟩:Bk w1 w.heap.size 33 #[.int .i64 r.lv,.int .i64 r.pl,.int .i64 r.sc,.slice A r.ins.length c,.slice A' r.hs.length c',.int .i64 r.tag]∧Bk w1 (w.heap.size+1) 33 #[.int .i64 r.lv,.int .i64 r.pl,.int .i64 r.sc,.slice B r.ins.length d,.slice B' r.hs.length d',.int .i64 r.tag]:=by refine⟨Bk.later ?_ hb1,Bk.later ?_ hb1⟩<;>(repeat first|(with_reducible first|assumption|exact kN _ _ _ (by simp)|refine kA ?_ _|refine kD ?_|refine kW ?_ _|apply Bk.set'|refine kF ?_ (by simp<;>omega) _|refine kL ?_ ‹_›|refine kG ?_ ‹_› (by first|omega|simp<;>omega))|exact⟨by with_reducible rfl⟩|exact⟨by simp⟩)
 have d1:Below w.heap.size w w1:=Qa (by(with_reducible repeat first|assumption|apply bl0|apply blA|apply blD|apply blN|refine blF ?_ ‹_›|(apply blS;(simp<;>omega)))) hb1
 clear hb1
 obtain⟨⟨x0,x1,x2,x3,x4,x5⟩,xf⟩:=R1.c6;obtain⟨⟨y0,y1,y2,y3,y4,y5⟩,yf⟩:=Q1.c6
 go_wp2_with fail
 refine(Ji A' B' _ _ c' d' r.hs _ (h'.below d1) (g'.below d1) hn' hn').mono ?_
 rintro e w2 ⟨rfl,hb2⟩
 go_wp2
 go_ret
 exact⟨rfl,by(with_reducible repeat first|assumption|apply bl0|apply blA|apply blD|apply blN|refine blF ?_ ‹_›|(apply blS;(simp<;>omega)))⟩
end Go.Proofs.YtpmjcjoeckajgaaGreatDoor
