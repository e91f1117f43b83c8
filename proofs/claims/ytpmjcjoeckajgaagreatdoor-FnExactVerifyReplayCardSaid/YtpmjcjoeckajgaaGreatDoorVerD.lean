/- The program's verdict, its number. (Round C, cards) -/
import Derived.Test.YtpmjcjoeckajgaaGreatDoorVerC
namespace Go.Proofs.YtpmjcjoeckajgaaGreatDoor
open Go.ChangeShapes Go.WideShapes Go.ChangeAt Go.RowKit
theorem Qwm(l:Lev)(key:Int)(r:Rep):0≤QM l key r∧QM l key r≤9:=by
 unfold QM
 (repeat' split)<;>omega
set_option maxRecDepth 100000 in
set_option maxHeartbeats 8000000 in
theorem QaN(az:Nat→Addr)(l:Lev)(key:Int)(r:Rep)(A A' A2 A3:Option Addr)(c c' c2 c3:Nat)(w:World)(h:Sl w 4 Qc A l.walls.length l.walls)(hg:Sl w 4 Qc A' l.gates.length l.gates)(e:A=none→c=0)(e':A'=none→c'=0)(hn1:(l.walls.length:Nat)≤9223372036854775807)(hn2:(l.gates.length:Nat)≤9223372036854775807)(hs:Sl w 3 Qd A2 r.ins.length r.ins)(hs':Sl w 1 Qe A3 r.hs.length r.hs)(e3:A3=none→c3=0)(hn3:(r.ins.length:Nat)≤9223372036854775807)(hn4:(r.hs.length:Nat)≤9223372036854775807)(sz:Jj az w):
 Calls Sq.prog 11 #[.agg #[.int .i64 l.id,.int .i64 l.ticks,.int .i64 l.start.x,.int .i64 l.start.y,.slice A l.walls.length c,.slice A' l.gates.length c',.int .i64 l.fin.lo.x,.int .i64 l.fin.lo.y,.int .i64 l.fin.hi.x,.int .i64 l.fin.hi.y,.int .i64 l.bans],.int .i64 key,.agg #[.int .i64 r.lv,.int .i64 r.pl,.int .i64 r.sc,.slice A2 r.ins.length c2,.slice A3 r.hs.length c3,.int .i64 r.tag]] w fun e w'=>e= .returned (.int .i64 (QM l key r))∧Below w.heap.size w w':=by
 obtain⟨b0,b9⟩:=Qwm l key r
 obtain⟨vd,hvd⟩: ∃vd,QM l key r=vd:=⟨_,rfl⟩
 rw[hvd] at b0 b9⊢
 have HVD:=Lib.hid hvd
 have SZ:=Lib.hid sz
 have SB:=Lib.hid (sz.below (Qf (Qf (Below.refl _ _) (.cells #[.int .i64 l.id,.int .i64 l.ticks,.int .i64 l.start.x,.int .i64 l.start.y,.slice A l.walls.length c,.slice A' l.gates.length c',.int .i64 l.fin.lo.x,.int .i64 l.fin.lo.y,.int .i64 l.fin.hi.x,.int .i64 l.fin.hi.y,.int .i64 l.bans] 29)) (.cells #[.int .i64 r.lv,.int .i64 r.pl,.int .i64 r.sc,.slice A2 r.ins.length c2,.slice A3 r.hs.length c3,.int .i64 r.tag] 33)))
 clear hvd sz
 go_enter Sq.func11, Tryz.ntmps11
 go_wp2_with fail
 refine(Qqc az l key r A A' A2 A3 c c' c2 c3 _ (h.below (by(with_reducible repeat first|assumption|apply bl0|apply blA|apply blD|apply blN|refine blF ?_ ‹_›|(apply blS;(simp<;>omega))))) (hg.below (by(with_reducible repeat first|assumption|apply bl0|apply blA|apply blD|apply blN|refine blF ?_ ‹_›|(apply blS;(simp<;>omega))))) e e' hn1 hn2 (hs.below (by(with_reducible repeat first|assumption|apply bl0|apply blA|apply blD|apply blN|refine blF ?_ ‹_›|(apply blS;(simp<;>omega))))) (hs'.below (by(with_reducible repeat first|assumption|apply bl0|apply blA|apply blD|apply blN|refine blF ?_ ‹_›|(apply blS;(simp<;>omega))))) e3 hn3 hn4 SB.out).mono ?_
 rw[HVD.out]
 rintro e1 w1 ⟨rfl,hb1⟩
 have d1:Below w.heap.size w w1:=Qa (by(with_reducible repeat first|assumption|apply bl0|apply blA|apply blD|apply blN|refine blF ?_ ‹_›|(apply blS;(simp<;>omega)))) hb1
 have S1:=SZ.out.below d1
 clear hb1
 have y1:=S1.z
 by_cases h0:vd=0
 ·subst h0
  rw[show errV az 0= .nilIface from rfl]
  go_wp2
  go_ret
  exact⟨rfl,d1⟩
 obtain⟨k,rfl⟩: ∃k:Nat,vd=(k:Int)+1:=⟨(vd - 1).toNat,by omega⟩
 have hk8:k≤8:=by omega
 have hE:errV az ((k:Int)+1)= .iface 245 (.pointer (some (az k))):=by
  unfold errV
  rw[if_neg (by omega),show((k:Int)+1).toNat - 1=k by omega]
 rw[hE]
 clear hE h0 b0 b9
 have g0:=S1.c 0 (by omega)
 have g1:=S1.c 1 (by omega)
 have g2:=S1.c 2 (by omega)
 have g3:=S1.c 3 (by omega)
 have g4:=S1.c 4 (by omega)
 have g5:=S1.c 5 (by omega)
 have g6:=S1.c 6 (by omega)
 have g7:=S1.c 7 (by omega)
 obtain⟨N,hN⟩: ∃N,w1.heap.size=N:=⟨_,rfl⟩
 have R1:=Lib.hid S1.r
 have NE:=Lib.hid S1.ne
 go_wp2
 refine Xq (fun W=>Below w1.heap.size w1 W∧∀j,j<8→W.cell? ⟨N,j,none⟩=some (.iface 245 (.pointer (some (az j))))) ⟨by(with_reducible repeat first|assumption|apply bl0|apply blA|apply blD|apply blN|refine blF ?_ ‹_›|(apply blS;(simp<;>omega))),fun j hj=>by
  rcases(show j=0∨j=1∨j=2∨j=3∨j=4∨j=5∨j=6∨j=7 by omega) with rfl|rfl|rfl|rfl|rfl|rfl|rfl|rfl<;>exact(Bk.cell (kN _ _ _ hN) _).trans rfl⟩ ?_
 rintro W ⟨bW,cW⟩
 have CW:=Lib.hid cW
 clear cW g0 g1 g2 g3 g4 g5 g6 g7
 go_loop [8,9,26] (fun _ _ i=>∃j:Nat,j≤k∧j≤8∧i= .int .i64 j) (fun _ _ i=>9 - (intOf i).toNat)
 case atStart=>exact⟨0,by omega,by omega,rfl⟩
 case round=>
  obtain⟨j,hj,hj8,rfl⟩:=hrel
  by_cases hlt:j<8
  ·have cj:=CW.out j hlt
   have hl2:((j:Int)<8):=by omega
   by_cases hjk:j=k
   ·subst hjk
    go_wp2_with (go_at_call 35;refine(QqJ (az j) _).mono ?_;rintro e2 w2 ⟨rfl,rfl⟩)
    go_ret
    exact⟨QU (by omega),Qa d1 bW⟩
   ·obtain⟨ca,ta,ha⟩:=R1.out k (by omega)
    obtain⟨cb,tb,hb⟩:=R1.out j (by omega)
    have hne:=NE.out k j (by omega) (by omega) (by omega)
    have ha2:=(bW.block _ (Array.getElem?_eq_some_iff.1 ha).1).trans ha
    have hb2:=(bW.block _ (Array.getElem?_eq_some_iff.1 hb).1).trans hb
    go_wp2_with (go_at_call 35;refine(Qqy (az k) (az j) ca cb ta tb _ hne ha2 hb2).mono ?_;rintro e2 w2 ⟨rfl,rfl⟩)
    go_round
    case rel=>exact⟨j+1,by omega,by omega,by go_num⟩
    case measure=>simp[intOf];omega
  ·have hk:k=8:=by omega
   have hj0: ¬((j:Int)<8):=by omega
   have H8:=Lib.hid hk
   clear hk
   go_wp2
   go_ret
   exact⟨by rw[H8.out];rfl,Qa d1 bW⟩
end Go.Proofs.YtpmjcjoeckajgaaGreatDoor
