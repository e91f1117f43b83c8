/- Lemmas: ConvB ConvL. -/
import Derived.Test.YtgaimkihacljdaaGreatZImpB
import Derived.Test.YtgaimkihacljdaaGreatZBase
/- The laws' own conversions and comparisons of boxes, levels, states. Written by gen/convb.py. (Round B) -/
namespace Go.Proofs.YtgaimkihacljdaaGreat
open Go.ChangeShapes Go.WideShapes Go.ChangeAt Go.RowKit
def eqV2(u v:V2):Bool:=u.x == v.x && u.y == v.y
theorem QaZ(u v:V2):eqV2 u v=true↔u=v:=by
 obtain⟨a,b⟩:=u;obtain⟨c,d⟩:=v
 simp[eqV2]
def eqBx(a b:Bx):Bool:=eqV2 a.lo b.lo && eqV2 a.hi b.hi
theorem QbW(a b:Bx):eqBx a b=true↔a=b:=by
 obtain⟨p,q⟩:=a;obtain⟨r,s⟩:=b
 simp[eqBx,QaZ]
theorem Qhd(x y:Int)(w:World):Calls Sq.prog 19 #[.agg #[.int .i64 x,.int .i64 y]] w fun e w'=>e= .returned (.agg #[.int .i64 x,.int .i64 y])∧Below w.heap.size w w':=by
 go_enter Sq.func19, Tryz.ntmps19
 go_wp2
 refine bodyPost_ret (v:= .agg #[.int .i64 x,.int .i64 y]) (by simp[results, Tryz.results19,go_sem, *]) rfl ⟨rfl,by(with_reducible repeat first|assumption|exact bl0 _ _|refine blA ?_ _|(refine blS ?_ ?_ _;(simp<;>omega))|refine blD ?_|refine blN ?_ _|refine blF ?_ ‹_›)⟩
theorem QcU(u v:V2)(w:World):Calls Sq.prog 27 #[.agg #[.int .i64 u.x,.int .i64 u.y],.agg #[.int .i64 v.x,.int .i64 v.y]] w fun e w'=>e= .returned (.bool (eqV2 u v))∧Below w.heap.size w w':=by
 go_enter Sq.func27, Tryz.ntmps27
 go_wp2
 all_goals (go_ret;refine⟨?_,by(with_reducible repeat first|assumption|exact bl0 _ _|refine blA ?_ _|(refine blS ?_ ?_ _;(simp<;>omega))|refine blD ?_|refine blN ?_ _|refine blF ?_ ‹_›)⟩;simp_all [eqV2])
theorem QlM(b:Bx)(w:World):Calls Sq.prog 21 #[.agg #[.int .i64 b.lo.x,.int .i64 b.lo.y,.int .i64 b.hi.x,.int .i64 b.hi.y]] w fun e w'=>e= .returned (.agg #[.int .i64 b.lo.x,.int .i64 b.lo.y,.int .i64 b.hi.x,.int .i64 b.hi.y])∧Below w.heap.size w w':=by
 go_enter Sq.func21, Tryz.ntmps21
 go_wp2_with fail
 refine(Qhd b.lo.x b.lo.y _).mono ?_
 rintro e w1 ⟨rfl,hb1⟩
 have A1:Bk w1 w.heap.size 26 #[.int .i64 b.lo.x,.int .i64 b.lo.y,.int .i64 b.hi.x,.int .i64 b.hi.y]:=Bk.later (by(repeat first|(with_reducible first|assumption|exact kN _ _ _ (by simp)|refine kA ?_ _|refine kD ?_|refine kW ?_ _|apply Bk.set'|refine kF ?_ (by simp<;>omega) _|refine kL ?_ ‹_›|refine kG ?_ ‹_› (by first|omega|simp<;>omega))|exact⟨by with_reducible rfl⟩|exact⟨by simp⟩)) hb1
 have O1:Bk w1 (w.heap.size+1) 40 #[.int .i64 0,.int .i64 0,.int .i64 0,.int .i64 0]:=Bk.later ((Bk.new _ _ _ (by simp)).alloc _) hb1
 have X1:Bk w1 (w.heap.size+1+1) 40 #[.int .i64 0,.int .i64 0,.int .i64 0,.int .i64 0]:=Bk.later (Bk.new _ _ _ (by simp)) hb1
 have d1:Below w.heap.size w w1:=by(with_reducible repeat first|assumption|exact bl0 _ _|refine blA ?_ _|(refine blS ?_ ?_ _;(simp<;>omega))|refine blD ?_|refine blN ?_ _|refine blF ?_ ‹_›)
 clear hb1
 have z1:=X1.lt
 obtain⟨⟨a0,a1,a2,a3⟩,af⟩:=A1.c4;obtain⟨⟨x0,x1,x2,x3⟩,xf⟩:=X1.c4
 go_wp2_with fail
 refine(Qhd b.hi.x b.hi.y _).mono ?_
 rintro e w2 ⟨rfl,hb2⟩
 have O2:Bk w2 (w.heap.size+1) 40 #[.int .i64 0,.int .i64 0,.int .i64 0,.int .i64 0]:=Bk.later (by(repeat first|(with_reducible first|assumption|exact kN _ _ _ (by simp)|refine kA ?_ _|refine kD ?_|refine kW ?_ _|apply Bk.set'|refine kF ?_ (by simp<;>omega) _|refine kL ?_ ‹_›|refine kG ?_ ‹_› (by first|omega|simp<;>omega))|exact⟨by with_reducible rfl⟩|exact⟨by simp⟩)) hb2
 have X2:Bk w2 (w.heap.size+1+1) 40 #[.int .i64 b.lo.x,.int .i64 b.lo.y,.int .i64 0,.int .i64 0]:=Bk.later (by(repeat first|(with_reducible first|assumption|exact kN _ _ _ (by simp)|refine kA ?_ _|refine kD ?_|refine kW ?_ _|apply Bk.set'|refine kF ?_ (by simp<;>omega) _|refine kL ?_ ‹_›|refine kG ?_ ‹_› (by first|omega|simp<;>omega))|exact⟨by with_reducible rfl⟩|exact⟨by simp⟩)) hb2
 have d2:Below w.heap.size w w2:=by(with_reducible repeat first|assumption|exact bl0 _ _|refine blA ?_ _|(refine blS ?_ ?_ _;(simp<;>omega))|refine blD ?_|refine blN ?_ _|refine blF ?_ ‹_›)
 clear hb2 a0 a1 a2 a3 af x0 x1 x2 x3 xf A1 O1 X1 d1 z1
 have z2:=X2.lt
 obtain⟨⟨o0,o1,o2,o3⟩,of⟩:=O2.c4;obtain⟨⟨x0,x1,x2,x3⟩,xf⟩:=X2.c4
 go_wp2
 refine bodyPost_ret (v:= .agg #[.int .i64 b.lo.x,.int .i64 b.lo.y,.int .i64 b.hi.x,.int .i64 b.hi.y]) (by simp[results, Tryz.results21,go_sem, *]) rfl ⟨rfl,by(with_reducible repeat first|assumption|exact bl0 _ _|refine blA ?_ _|(refine blS ?_ ?_ _;(simp<;>omega))|refine blD ?_|refine blN ?_ _|refine blF ?_ ‹_›)⟩
theorem Qh5(a b:Bx)(w:World):Calls Sq.prog 29 #[.agg #[.int .i64 a.lo.x,.int .i64 a.lo.y,.int .i64 a.hi.x,.int .i64 a.hi.y],.agg #[.int .i64 b.lo.x,.int .i64 b.lo.y,.int .i64 b.hi.x,.int .i64 b.hi.y]] w fun e w'=>e= .returned (.bool (eqBx a b))∧Below w.heap.size w w':=by
 cases h1:eqV2 a.lo b.lo
 ·have HE:=Lib.hid (show eqBx a b=false by unfold eqBx;rw[h1];rfl)
  go_enter Sq.func29, Tryz.ntmps29
  go_wp2_with (go_at_call 27;refine(QcU a.lo b.lo _).mono ?_;rw[h1];rintro e w1 ⟨rfl,hb1⟩)
  go_ret
  exact⟨Qs HE.out.symm,by(with_reducible repeat first|assumption|exact bl0 _ _|refine blA ?_ _|(refine blS ?_ ?_ _;(simp<;>omega))|refine blD ?_|refine blN ?_ _|refine blF ?_ ‹_›)⟩
 ·have HE:=Lib.hid (show eqBx a b=eqV2 a.hi b.hi by unfold eqBx;rw[h1];rfl)
  go_enter Sq.func29, Tryz.ntmps29
  go_wp2_with fail
  refine(QcU a.lo b.lo _).mono ?_
  rw[h1]
  rintro e w1 ⟨rfl,hb1⟩
  have A1:Bk w1 w.heap.size 40 #[.int .i64 a.lo.x,.int .i64 a.lo.y,.int .i64 a.hi.x,.int .i64 a.hi.y]:=Bk.later (by(repeat first|(with_reducible first|assumption|exact kN _ _ _ (by simp)|refine kA ?_ _|refine kD ?_|refine kW ?_ _|apply Bk.set'|refine kF ?_ (by simp<;>omega) _|refine kL ?_ ‹_›|refine kG ?_ ‹_› (by first|omega|simp<;>omega))|exact⟨by with_reducible rfl⟩|exact⟨by simp⟩)) hb1
  have B1:Bk w1 (w.heap.size+1) 40 #[.int .i64 b.lo.x,.int .i64 b.lo.y,.int .i64 b.hi.x,.int .i64 b.hi.y]:=Bk.later (by(repeat first|(with_reducible first|assumption|exact kN _ _ _ (by simp)|refine kA ?_ _|refine kD ?_|refine kW ?_ _|apply Bk.set'|refine kF ?_ (by simp<;>omega) _|refine kL ?_ ‹_›|refine kG ?_ ‹_› (by first|omega|simp<;>omega))|exact⟨by with_reducible rfl⟩|exact⟨by simp⟩)) hb1
  have d1:Below w.heap.size w w1:=by(with_reducible repeat first|assumption|exact bl0 _ _|refine blA ?_ _|(refine blS ?_ ?_ _;(simp<;>omega))|refine blD ?_|refine blN ?_ _|refine blF ?_ ‹_›)
  clear hb1
  obtain⟨⟨a0,a1,a2,a3⟩,af⟩:=A1.c4;obtain⟨⟨b0,b1,b2,b3⟩,bf⟩:=B1.c4
  cases h2:eqV2 a.hi b.hi
  all_goals
   have HE2:=Lib.hid h2
   go_wp2_with (go_at_call 27;refine(QcU a.hi b.hi _).mono ?_;rw[h2];rintro e w2 ⟨rfl,hb2⟩)
   go_ret
   exact⟨Qs (by rw[HE.out,HE2.out]),by(with_reducible repeat first|assumption|exact bl0 _ _|refine blA ?_ _|(refine blS ?_ ?_ _;(simp<;>omega))|refine blD ?_|refine blN ?_ _|refine blF ?_ ‹_›)⟩
theorem QlF(A:Option Addr)(n c:Nat)(k:Int)(w:World)(hk0: -1≤k)(hk1:k≤2097152)(hn:n≤9223372036854775807):
 Calls Sq.prog 15 #[.slice A n c,.int .i64 k] w fun e w'=>e= .returned (.int .i64 (szL n k))∧w=w':=by
 go_enter Sq.func15, Tryz.ntmps15
 by_cases h:k - n<0
 all_goals
  go_wp2
  go_ret
  exact⟨QU (by unfold szL;split<;>omega),rfl⟩
set_option maxRecDepth 100000 in
theorem Qh4(A A':Option Addr)(n n' c c':Nat)(l l':List Bx)(w:World)(h:Sl w 4 Qc A n l)(h':Sl w 4 Qc A' n' l')(hn:n≤2097152)(hn':n'≤2097152):
 Calls Sq.prog 28 #[.slice A n c,.slice A' n' c'] w fun e w'=>e= .returned (.bool (eqL eqBx l l'))∧Below w.heap.size w w':=by
 by_cases hnn:n=n'
 ·subst hnn
  go_enter Sq.func28, Tryz.ntmps28
  go_wp2
  go_loopw [5] (fun i wr=>∃k:Nat,k≤n∧i= .int .i64 k∧l.take k=l'.take k∧Below w.heap.size w wr) (fun i _=>n - (intOf i).toNat)
  case atStart=>exact⟨0,Nat.zero_le _,rfl,rfl,Below.refl _ _⟩
  case round=>
   obtain⟨k,hk,rfl,ht,hb⟩:=hrel
   by_cases hlt:k<n
   ·obtain⟨b,off,x,rfl,hbl,hx,hc⟩:=(h.below hb).at_ hlt
    obtain⟨b',off',x',rfl,hbl',hx',hc'⟩:=(h'.below hb).at_ hlt
    have q0:wr.cell? ⟨b,off+k*4,none⟩=some (.int .i64 x.lo.x):=hc 0 _ rfl
    have q1:wr.cell? ⟨b,off+k*4+1,none⟩=some (.int .i64 x.lo.y):=hc 1 _ rfl
    have q2:wr.cell? ⟨b,off+k*4+2,none⟩=some (.int .i64 x.hi.x):=hc 2 _ rfl
    have q3:wr.cell? ⟨b,off+k*4+3,none⟩=some (.int .i64 x.hi.y):=hc 3 _ rfl
    have r0:wr.cell? ⟨b',off'+k*4,none⟩=some (.int .i64 x'.lo.x):=hc' 0 _ rfl
    have r1:wr.cell? ⟨b',off'+k*4+1,none⟩=some (.int .i64 x'.lo.y):=hc' 1 _ rfl
    have r2:wr.cell? ⟨b',off'+k*4+2,none⟩=some (.int .i64 x'.hi.x):=hc' 2 _ rfl
    have r3:wr.cell? ⟨b',off'+k*4+3,none⟩=some (.int .i64 x'.hi.y):=hc' 3 _ rfl
    have Ht:=Lib.hid ht;clear ht
    have Hx:=Lib.hid hx;clear hx
    have Hx':=Lib.hid hx';clear hx'
    clear h h' hc hc'
    go_wp2
    go_still_tail 8,(by kernel_rfl)
    change wpList _ _ _ _ _ wr.drew
    have hb2:Below w.heap.size w wr.drew:=hb.drew
    generalize wr.drew=w2 at hb2
    go_wp2_with (go_at_call 29;refine(Qh5 _ _ _).mono ?_;rintro e w' ⟨rfl,hb1⟩)
    ·have ht:(!eqBx x x')=true:=by assumption
     go_ret
     exact⟨Qs (Qbr QbW Hx.out Hx'.out (by simpa using ht)).symm,hb2.trans (hb1.mono hb2.size)⟩
    ·have ht:(!eqBx x x')=false:=by assumption
     go_roundw
     case rel=>exact⟨k+1,by omega,by go_num,QbP Hx.out Hx'.out Ht.out ((QbW x x').1 (by simpa using ht)),hb2.trans (hb1.mono hb2.size)⟩
     case measure=>simp[intOf];omega
   ·have hkn:k=n:=by omega
    have H:=Lib.hid hkn;clear hkn
    go_wp2
    go_ret
    exact⟨Qs (Qbp QbW (by rw[←H.out];exact ht) h.1 h'.1).symm,hb⟩
 ·have hnb:((n:Int) != (n':Int))=true:=by rw[bne_iff_ne];omega
  go_enter Sq.func28, Tryz.ntmps28
  go_wp2
  go_ret
  exact⟨Qs (Qbq QbW (by rw[h.1,h'.1];exact hnn)).symm,Below.refl _ _⟩
set_option maxRecDepth 100000 in
theorem QlL(A:Option Addr)(n c:Nat)(l:List Bx)(w:World)(h:Sl w 4 Qc A n l)(hn:n≤2097152):
 Calls Sq.prog 20 #[.slice A n c] w (XM 40 4 Qc l w):=by
 obtain rfl:=h.len
 obtain⟨i0,hi,hz0,hz1,hz2⟩:=info_parts Sq.infoBox
 go_enter Sq.func20, Tryz.ntmps20
 go_wp2_with (at_make;refine wpList_make_full _ rfl _ _ 38 rfl w.heap.size 40 i0 (.agg #[.int .i64 0,.int .i64 0,.int .i64 0,.int .i64 0]) 4 (Sq.und Tryz.underlying38) hi hz0 hz1 _ _ _ _ l.length rfl rfl rfl rfl ?c1 ?c2 ?c3 ?_)
 case c1=>rw[hz2];omega
 case c2=>unfold maxLen;omega
 case c3=>simp
 ·intro w1 ho hg
  have hb0:Below w.heap.size w w1:=QcN hg (Nat.le_refl _) (by intro k e;cases e)
  generalize hM:(madeCells _ _).toList=M at ho
  have HM:=Lib.hid ho.1
  clear hM hg
  go_wp2
  go_loopw [4] (fun i wr=>∃k:Nat,k≤l.length∧i= .int .i64 k∧wr.ownsRow w.heap.size 40 4 (.slice (some ⟨w.heap.size,0,none⟩) l.length l.length) l.length (Xf Qc 4 l M k)∧Below w.heap.size w wr) (fun i _=>l.length - (intOf i).toNat)
  case atStart=>exact⟨0,Nat.zero_le _,rfl,by rw[Qak];exact ho,hb0⟩
  case round=>
   obtain⟨k,hk,rfl,ho1,hb⟩:=hrel
   by_cases hlt:k<l.length
   ·obtain⟨b,off,x,rfl,hbl,hx,hc⟩:=(h.below hb).at_ hlt
    have q0:wr.cell? ⟨b,off+k*4,none⟩=some (.int .i64 x.lo.x):=hc 0 _ rfl
    have q1:wr.cell? ⟨b,off+k*4+1,none⟩=some (.int .i64 x.lo.y):=hc 1 _ rfl
    have q2:wr.cell? ⟨b,off+k*4+2,none⟩=some (.int .i64 x.hi.x):=hc 2 _ rfl
    have q3:wr.cell? ⟨b,off+k*4+3,none⟩=some (.int .i64 x.hi.y):=hc 3 _ rfl
    have Hx:=Lib.hid hx;clear hx
    clear h hc ho hb0
    go_wp2_with (go_at_call 21;refine(QlM _ _).mono ?_;rintro e w' ⟨rfl,hb1⟩;have ho2:=ho1.kept (row:=none) (Qbt hb1) (.inr (by simp[Value.ownBlock]));obtain⟨⟨v0,c0⟩,f0⟩:=Zk ho2 hlt 0 (by omega);obtain⟨⟨v1,c1⟩,f1⟩:=Zk ho2 hlt 1 (by omega);obtain⟨⟨v2,c2⟩,f2⟩:=Zk ho2 hlt 2 (by omega);obtain⟨⟨v3,c3⟩,f3⟩:=Zk ho2 hlt 3 (by omega);simp only[Nat.add_zero] at c0 f0)
    go_roundw
    case rel=>
     have hp:=J3 (Qc x) _ (k*4) w' ho2
     rw[QaD Qv HM.out Hx.out] at hp
     exact⟨k+1,by omega,by go_num,hp.1,(((((hb.trans (hb1.mono hb.size)).setCell (Nat.le_refl _) _).setCell (Nat.le_refl _) _).setCell (Nat.le_refl _) _).setCell (Nat.le_refl _) _)⟩
    case measure=>simp[intOf];omega
   ·have hkn:k=l.length:=by omega
    have H:=Lib.hid hkn;clear hkn
    go_wp2
    go_ret
    exact⟨_,_,rfl,Nat.le_refl _,by rw[H.out,Qaj HM.out] at ho1;exact ho1,hb⟩
def JC(nw ng:Nat)(k:Int):Int:=if szL nw k<0 then -1 else szL ng (szL nw k)
theorem XH(v0 v1 v2 v3 v6 v7 v8 v9 v10:Value)(A A':Option Addr)(n n' c c':Nat)(k:Int)(w:World)(hk0: -1≤k)(hk1:k≤1048576)(hn:n≤9223372036854775807)(hn':n'≤9223372036854775807):
 Calls Sq.prog 4 #[.agg #[v0,v1,v2,v3,.slice A n c,.slice A' n' c',v6,v7,v8,v9,v10],.int .i64 k] w fun e w'=>e= .returned (.int .i64 (JC n n' k))∧Below w.heap.size w w':=by
 have hz:=Qfc (n:=n) hk1 hk0
 by_cases hs:szL n k<0
 ·have H:=Lib.hid hs
  go_enter Sq.func4, Tryz.ntmps4
  go_wp2_with (go_at_call 15;refine(QlF _ _ _ _ _ (by omega) (by omega) (by omega)).mono ?_;rintro e w' ⟨rfl,rfl⟩)
  go_ret
  exact⟨QU (by unfold JC;rw[if_pos H.out]),by(with_reducible repeat first|assumption|exact bl0 _ _|refine blA ?_ _|(refine blS ?_ ?_ _;(simp<;>omega))|refine blD ?_|refine blN ?_ _|refine blF ?_ ‹_›)⟩
 ·have hz2:=Qfc (n:=n') hz.2 hz.1
  have H:=Lib.hid hs
  by_cases hs2:szL n' (szL n k)<0
  all_goals
   go_enter Sq.func4, Tryz.ntmps4
   go_wp2_with (go_at_call 15;refine(QlF _ _ _ _ _ (by omega) (by omega) (by omega)).mono ?_;rintro e w' ⟨rfl,rfl⟩)
   go_ret
   exact⟨QU (by unfold JC;rw[if_neg (by have:=H.out;omega)];try omega),by(with_reducible repeat first|assumption|exact bl0 _ _|refine blA ?_ _|(refine blS ?_ ?_ _;(simp<;>omega))|refine blD ?_|refine blN ?_ _|refine blF ?_ ‹_›)⟩
theorem ZR{α:Type}{w:World}{B:Nat}{T:TypeId}{sz:Nat}{enc:α→List Value}{A:Option Addr}{n c:Nat}{l:List α}(h:Own w B T sz enc (.slice A n c) l):A=none→c=0:=by
 intro e
 subst e
 rcases h.2 with⟨h0,_⟩|⟨g,cap,cur,h0,_⟩
 ·injection h0
 ·injection h0 with h0
  cases h0
def Qme(l:Lev)(w:World)(e:Ending)(w':World):Prop:=
 ∃A c A' c',e= .returned (.agg #[.int .i64 l.id,.int .i64 l.ticks,.int .i64 l.start.x,.int .i64 l.start.y,.slice A l.walls.length c,.slice A' l.gates.length c',.int .i64 l.fin.lo.x,.int .i64 l.fin.lo.y,.int .i64 l.fin.hi.x,.int .i64 l.fin.hi.y,.int .i64 l.bans])∧Own w' w.heap.size 40 4 Qc (.slice A l.walls.length c) l.walls∧Own w' w.heap.size 40 4 Qc (.slice A' l.gates.length c') l.gates∧Below w.heap.size w w'
def Qmg(l:Lev)(w:World)(e:Ending)(w':World):Prop:=
 ∃A c A' c',e= .returned (.agg #[.int .i64 l.id,.int .i64 l.ticks,.int .i64 l.start.x,.int .i64 l.start.y,.slice A l.walls.length c,.slice A' l.gates.length c',.int .i64 l.fin.lo.x,.int .i64 l.fin.lo.y,.int .i64 l.fin.hi.x,.int .i64 l.fin.hi.y,.int .i64 l.bans])∧Own w' w.heap.size 40 4 Qc (.slice A l.walls.length c) l.walls∧Own w' w.heap.size 40 4 Qc (.slice A' l.gates.length c') l.gates∧Below w.heap.size w w'∧(∀g g',(Value.slice A l.walls.length c).ownBlock=some g→(Value.slice A' l.gates.length c').ownBlock=some g'→g<g')
set_option maxRecDepth 100000 in
set_option maxHeartbeats 2000000 in
theorem Qfe(l:Lev)(A A':Option Addr)(c c':Nat)(w:World)(h:Sl w 4 Qc A l.walls.length l.walls)(h':Sl w 4 Qc A' l.gates.length l.gates)(hn:l.walls.length≤2097152)(hn':l.gates.length≤2097152):
 Calls Sq.prog 7 #[.agg #[.int .i64 l.id,.int .i64 l.ticks,.int .i64 l.start.x,.int .i64 l.start.y,.slice A l.walls.length c,.slice A' l.gates.length c',.int .i64 l.fin.lo.x,.int .i64 l.fin.lo.y,.int .i64 l.fin.hi.x,.int .i64 l.fin.hi.y,.int .i64 l.bans]] w (Qmg l w):=by
 go_enter Sq.func7, Tryz.ntmps7
 go_wp2_with fail
 refine(Qhd l.start.x l.start.y _).mono ?_
 rintro e w1 ⟨rfl,hb1⟩
 have LA1:Bk w1 w.heap.size 28 #[.int .i64 l.id,.int .i64 l.ticks,.int .i64 l.start.x,.int .i64 l.start.y,.slice A l.walls.length c,.slice A' l.gates.length c',.int .i64 l.fin.lo.x,.int .i64 l.fin.lo.y,.int .i64 l.fin.hi.x,.int .i64 l.fin.hi.y,.int .i64 l.bans]:=Bk.later (by(repeat first|(with_reducible first|assumption|exact kN _ _ _ (by simp)|refine kA ?_ _|refine kD ?_|refine kW ?_ _|apply Bk.set'|refine kF ?_ (by simp<;>omega) _|refine kL ?_ ‹_›|refine kG ?_ ‹_› (by first|omega|simp<;>omega))|exact⟨by with_reducible rfl⟩|exact⟨by simp⟩)) hb1
 have O1:Bk w1 (w.heap.size+1) 42 #[.int .i64 0,.int .i64 0,.int .i64 0,.int .i64 0,.slice none 0 0,.slice none 0 0,.int .i64 0,.int .i64 0,.int .i64 0,.int .i64 0,.int .i64 0]:=Bk.later (by(repeat first|(with_reducible first|assumption|exact kN _ _ _ (by simp)|refine kA ?_ _|refine kD ?_|refine kW ?_ _|apply Bk.set'|refine kF ?_ (by simp<;>omega) _|refine kL ?_ ‹_›|refine kG ?_ ‹_› (by first|omega|simp<;>omega))|exact⟨by with_reducible rfl⟩|exact⟨by simp⟩)) hb1
 have X1:Bk w1 (w.heap.size+1+1) 42 #[.int .i64 l.id,.int .i64 l.ticks,.int .i64 0,.int .i64 0,.slice none 0 0,.slice none 0 0,.int .i64 0,.int .i64 0,.int .i64 0,.int .i64 0,.int .i64 0]:=Bk.later (by(repeat first|(with_reducible first|assumption|exact kN _ _ _ (by simp)|refine kA ?_ _|refine kD ?_|refine kW ?_ _|apply Bk.set'|refine kF ?_ (by simp<;>omega) _|refine kL ?_ ‹_›|refine kG ?_ ‹_› (by first|omega|simp<;>omega))|exact⟨by with_reducible rfl⟩|exact⟨by simp⟩)) hb1
 have d1:Below w.heap.size w w1:=by(with_reducible repeat first|assumption|exact bl0 _ _|refine blA ?_ _|(refine blS ?_ ?_ _;(simp<;>omega))|refine blD ?_|refine blN ?_ _|refine blF ?_ ‹_›)
 have y1:=LA1.lt;have yy1:=O1.lt;have z1:=X1.lt
 clear hb1
 obtain⟨⟨a0,a1,a2,a3,a4,a5,a6,a7,a8,a9,a10⟩,af⟩:=LA1.c11;obtain⟨⟨x0,x1,x2,x3,x4,x5,x6,x7,x8,x9,x10⟩,xf⟩:=X1.c11
 go_wp2_with fail
 refine(QlL A l.walls.length c l.walls _ (h.below (by(with_reducible repeat first|assumption|exact bl0 _ _|refine blA ?_ _|(refine blS ?_ ?_ _;(simp<;>omega))|refine blD ?_|refine blN ?_ _|refine blF ?_ ‹_›))) hn).mono ?_
 rintro e w2 ⟨A2,c2,rfl,hc2,G2,hb2⟩
 have LA2:Bk w2 w.heap.size 28 #[.int .i64 l.id,.int .i64 l.ticks,.int .i64 l.start.x,.int .i64 l.start.y,.slice A l.walls.length c,.slice A' l.gates.length c',.int .i64 l.fin.lo.x,.int .i64 l.fin.lo.y,.int .i64 l.fin.hi.x,.int .i64 l.fin.hi.y,.int .i64 l.bans]:=Bk.later (by(repeat first|(with_reducible first|assumption|exact kN _ _ _ (by simp)|refine kA ?_ _|refine kD ?_|refine kW ?_ _|apply Bk.set'|refine kF ?_ (by simp<;>omega) _|refine kL ?_ ‹_›|refine kG ?_ ‹_› (by first|omega|simp<;>omega))|exact⟨by with_reducible rfl⟩|exact⟨by simp⟩)) hb2
 have O2:Bk w2 (w.heap.size+1) 42 #[.int .i64 0,.int .i64 0,.int .i64 0,.int .i64 0,.slice none 0 0,.slice none 0 0,.int .i64 0,.int .i64 0,.int .i64 0,.int .i64 0,.int .i64 0]:=Bk.later (by(repeat first|(with_reducible first|assumption|exact kN _ _ _ (by simp)|refine kA ?_ _|refine kD ?_|refine kW ?_ _|apply Bk.set'|refine kF ?_ (by simp<;>omega) _|refine kL ?_ ‹_›|refine kG ?_ ‹_› (by first|omega|simp<;>omega))|exact⟨by with_reducible rfl⟩|exact⟨by simp⟩)) hb2
 have X2:Bk w2 (w.heap.size+1+1) 42 #[.int .i64 l.id,.int .i64 l.ticks,.int .i64 l.start.x,.int .i64 l.start.y,.slice none 0 0,.slice none 0 0,.int .i64 0,.int .i64 0,.int .i64 0,.int .i64 0,.int .i64 0]:=Bk.later (by(repeat first|(with_reducible first|assumption|exact kN _ _ _ (by simp)|refine kA ?_ _|refine kD ?_|refine kW ?_ _|apply Bk.set'|refine kF ?_ (by simp<;>omega) _|refine kL ?_ ‹_›|refine kG ?_ ‹_› (by first|omega|simp<;>omega))|exact⟨by with_reducible rfl⟩|exact⟨by simp⟩)) hb2
 have d2:Below w.heap.size w w2:=by(with_reducible repeat first|assumption|exact bl0 _ _|refine blA ?_ _|(refine blS ?_ ?_ _;(simp<;>omega))|refine blD ?_|refine blN ?_ _|refine blF ?_ ‹_›)
 have y2:=LA2.lt;have yy2:=O2.lt;have z2:=X2.lt
 have H2:Own w2 (w.heap.size+3) 40 4 Qc (.slice A2 l.walls.length c2) l.walls:=G2.mono (by simp;omega)
 have hG2:=Lib.hid G2.lt
 clear G2
 clear hb2 a0 a1 a2 a3 a4 a5 a6 a7 a8 a9 a10 af x0 x1 x2 x3 x4 x5 x6 x7 x8 x9 x10 xf LA1 O1 X1 d1 y1 yy1 z1
 obtain⟨⟨a0,a1,a2,a3,a4,a5,a6,a7,a8,a9,a10⟩,af⟩:=LA2.c11;obtain⟨⟨x0,x1,x2,x3,x4,x5,x6,x7,x8,x9,x10⟩,xf⟩:=X2.c11
 go_wp2_with fail
 refine(QlL A' l.gates.length c' l.gates _ (h'.below (by(with_reducible repeat first|assumption|exact bl0 _ _|refine blA ?_ _|(refine blS ?_ ?_ _;(simp<;>omega))|refine blD ?_|refine blN ?_ _|refine blF ?_ ‹_›))) hn').mono ?_
 rintro e w3 ⟨A3,c3,rfl,hc3,G3,hb3⟩
 have LA3:Bk w3 w.heap.size 28 #[.int .i64 l.id,.int .i64 l.ticks,.int .i64 l.start.x,.int .i64 l.start.y,.slice A l.walls.length c,.slice A' l.gates.length c',.int .i64 l.fin.lo.x,.int .i64 l.fin.lo.y,.int .i64 l.fin.hi.x,.int .i64 l.fin.hi.y,.int .i64 l.bans]:=Bk.later (by(repeat first|(with_reducible first|assumption|exact kN _ _ _ (by simp)|refine kA ?_ _|refine kD ?_|refine kW ?_ _|apply Bk.set'|refine kF ?_ (by simp<;>omega) _|refine kL ?_ ‹_›|refine kG ?_ ‹_› (by first|omega|simp<;>omega))|exact⟨by with_reducible rfl⟩|exact⟨by simp⟩)) hb3
 have O3:Bk w3 (w.heap.size+1) 42 #[.int .i64 0,.int .i64 0,.int .i64 0,.int .i64 0,.slice none 0 0,.slice none 0 0,.int .i64 0,.int .i64 0,.int .i64 0,.int .i64 0,.int .i64 0]:=Bk.later (by(repeat first|(with_reducible first|assumption|exact kN _ _ _ (by simp)|refine kA ?_ _|refine kD ?_|refine kW ?_ _|apply Bk.set'|refine kF ?_ (by simp<;>omega) _|refine kL ?_ ‹_›|refine kG ?_ ‹_› (by first|omega|simp<;>omega))|exact⟨by with_reducible rfl⟩|exact⟨by simp⟩)) hb3
 have X3:Bk w3 (w.heap.size+1+1) 42 #[.int .i64 l.id,.int .i64 l.ticks,.int .i64 l.start.x,.int .i64 l.start.y,.slice A2 l.walls.length c2,.slice none 0 0,.int .i64 0,.int .i64 0,.int .i64 0,.int .i64 0,.int .i64 0]:=Bk.later (by(repeat first|(with_reducible first|assumption|exact kN _ _ _ (by simp)|refine kA ?_ _|refine kD ?_|refine kW ?_ _|apply Bk.set'|refine kF ?_ (by simp<;>omega) _|refine kL ?_ ‹_›|refine kG ?_ ‹_› (by first|omega|simp<;>omega))|exact⟨by with_reducible rfl⟩|exact⟨by simp⟩)) hb3
 have d3:Below w.heap.size w w3:=by(with_reducible repeat first|assumption|exact bl0 _ _|refine blA ?_ _|(refine blS ?_ ?_ _;(simp<;>omega))|refine blD ?_|refine blN ?_ _|refine blF ?_ ‹_›)
 have y3:=LA3.lt;have yy3:=O3.lt;have z3:=X3.lt
 have I3:Own w3 (w.heap.size+3) 40 4 Qc (.slice A3 l.gates.length c3) l.gates:=G3.mono (by simp;omega)
 have H3:Own w3 (w.heap.size+3) 40 4 Qc (.slice A2 l.walls.length c2) l.walls:=Own.later (by(with_reducible repeat first|assumption|refine Own.alloc ?_ _|refine Own.drew ?_|refine Own.set (by first|omega|simp<;>omega) ?_ _)) hb3
 have hG3:=Lib.hid G3.lt
 clear G3 H2
 clear hb3 a0 a1 a2 a3 a4 a5 a6 a7 a8 a9 a10 af x0 x1 x2 x3 x4 x5 x6 x7 x8 x9 x10 xf LA2 O2 X2 d2 y2 yy2 z2
 obtain⟨⟨a0,a1,a2,a3,a4,a5,a6,a7,a8,a9,a10⟩,af⟩:=LA3.c11;obtain⟨⟨x0,x1,x2,x3,x4,x5,x6,x7,x8,x9,x10⟩,xf⟩:=X3.c11
 go_wp2_with fail
 refine(QlM l.fin _).mono ?_
 rintro e w4 ⟨rfl,hb4⟩
 have O4:Bk w4 (w.heap.size+1) 42 #[.int .i64 0,.int .i64 0,.int .i64 0,.int .i64 0,.slice none 0 0,.slice none 0 0,.int .i64 0,.int .i64 0,.int .i64 0,.int .i64 0,.int .i64 0]:=Bk.later (by(repeat first|(with_reducible first|assumption|exact kN _ _ _ (by simp)|refine kA ?_ _|refine kD ?_|refine kW ?_ _|apply Bk.set'|refine kF ?_ (by simp<;>omega) _|refine kL ?_ ‹_›|refine kG ?_ ‹_› (by first|omega|simp<;>omega))|exact⟨by with_reducible rfl⟩|exact⟨by simp⟩)) hb4
 have LA4:Bk w4 w.heap.size 28 #[.int .i64 l.id,.int .i64 l.ticks,.int .i64 l.start.x,.int .i64 l.start.y,.slice A l.walls.length c,.slice A' l.gates.length c',.int .i64 l.fin.lo.x,.int .i64 l.fin.lo.y,.int .i64 l.fin.hi.x,.int .i64 l.fin.hi.y,.int .i64 l.bans]:=Bk.later (by(repeat first|(with_reducible first|assumption|exact kN _ _ _ (by simp)|refine kA ?_ _|refine kD ?_|refine kW ?_ _|apply Bk.set'|refine kF ?_ (by simp<;>omega) _|refine kL ?_ ‹_›|refine kG ?_ ‹_› (by first|omega|simp<;>omega))|exact⟨by with_reducible rfl⟩|exact⟨by simp⟩)) hb4
 have X4:Bk w4 (w.heap.size+1+1) 42 #[.int .i64 l.id,.int .i64 l.ticks,.int .i64 l.start.x,.int .i64 l.start.y,.slice A2 l.walls.length c2,.slice A3 l.gates.length c3,.int .i64 0,.int .i64 0,.int .i64 0,.int .i64 0,.int .i64 0]:=Bk.later (by(repeat first|(with_reducible first|assumption|exact kN _ _ _ (by simp)|refine kA ?_ _|refine kD ?_|refine kW ?_ _|apply Bk.set'|refine kF ?_ (by simp<;>omega) _|refine kL ?_ ‹_›|refine kG ?_ ‹_› (by first|omega|simp<;>omega))|exact⟨by with_reducible rfl⟩|exact⟨by simp⟩)) hb4
 have d4:Below w.heap.size w w4:=by(with_reducible repeat first|assumption|exact bl0 _ _|refine blA ?_ _|(refine blS ?_ ?_ _;(simp<;>omega))|refine blD ?_|refine blN ?_ _|refine blF ?_ ‹_›)
 have H4:Own w4 (w.heap.size+3) 40 4 Qc (.slice A2 l.walls.length c2) l.walls:=Own.later (by(with_reducible repeat first|assumption|refine Own.alloc ?_ _|refine Own.drew ?_|refine Own.set (by first|omega|simp<;>omega) ?_ _)) hb4
 have I4:Own w4 (w.heap.size+3) 40 4 Qc (.slice A3 l.gates.length c3) l.gates:=Own.later (by(with_reducible repeat first|assumption|refine Own.alloc ?_ _|refine Own.drew ?_|refine Own.set (by first|omega|simp<;>omega) ?_ _)) hb4
 clear hb4 a0 a1 a2 a3 a4 a5 a6 a7 a8 a9 a10 af x0 x1 x2 x3 x4 x5 x6 x7 x8 x9 x10 xf LA3 O3 X3 d3 y3 yy3 z3 H3 I3
 have y4:=LA4.lt;have yy4:=O4.lt;have z4:=X4.lt
 obtain⟨⟨a0,a1,a2,a3,a4,a5,a6,a7,a8,a9,a10⟩,af⟩:=LA4.c11;obtain⟨⟨x0,x1,x2,x3,x4,x5,x6,x7,x8,x9,x10⟩,xf⟩:=X4.c11;obtain⟨⟨o0,o1,o2,o3,o4,o5,o6,o7,o8,o9,o10⟩,of⟩:=O4.c11
 go_wp2
 refine bodyPost_ret (v:= .agg #[.int .i64 l.id,.int .i64 l.ticks,.int .i64 l.start.x,.int .i64 l.start.y,.slice A2 l.walls.length c2,.slice A3 l.gates.length c3,.int .i64 l.fin.lo.x,.int .i64 l.fin.lo.y,.int .i64 l.fin.hi.x,.int .i64 l.fin.hi.y,.int .i64 l.bans]) (by simp[results, Tryz.results7,go_sem, *]) rfl ⟨A2,c2,A3,c3,rfl,Own.mono (B:=w.heap.size+3) (by(with_reducible repeat first|assumption|refine Own.alloc ?_ _|refine Own.drew ?_|refine Own.set (by first|omega|simp<;>omega) ?_ _)) (by omega),Own.mono (B:=w.heap.size+3) (by(with_reducible repeat first|assumption|refine Own.alloc ?_ _|refine Own.drew ?_|refine Own.set (by first|omega|simp<;>omega) ?_ _)) (by omega),by(with_reducible repeat first|assumption|exact bl0 _ _|refine blA ?_ _|(refine blS ?_ ?_ _;(simp<;>omega))|refine blD ?_|refine blN ?_ _|refine blF ?_ ‹_›),fun g g' e1 e2=>by have:=(hG2.out g e1).2;have:=(hG3.out g' e2).1;simp at this;omega⟩
theorem XI(l:Lev)(A A':Option Addr)(c c':Nat)(w:World)(h:Sl w 4 Qc A l.walls.length l.walls)(h':Sl w 4 Qc A' l.gates.length l.gates)(hn:l.walls.length≤2097152)(hn':l.gates.length≤2097152):
 Calls Sq.prog 7 #[.agg #[.int .i64 l.id,.int .i64 l.ticks,.int .i64 l.start.x,.int .i64 l.start.y,.slice A l.walls.length c,.slice A' l.gates.length c',.int .i64 l.fin.lo.x,.int .i64 l.fin.lo.y,.int .i64 l.fin.hi.x,.int .i64 l.fin.hi.y,.int .i64 l.bans]] w (Qme l w):=
 (Qfe l A A' c c' w h h' hn hn').mono fun _ _ ⟨A1,c1,A2,c2,h1,h2,h3,h4,_⟩=>⟨A1,c1,A2,c2,h1,h2,h3,h4⟩
theorem QoY(v:V2):eqV2 v v=true:=(QaZ _ _).2 rfl
theorem QoS(b:Bx):eqBx b b=true:=(QbW _ _).2 rfl
theorem QbY{α:Type}{p:α→α→Bool}(hp: ∀x y,p x y=true↔x=y)(l:List α):eqL p l l=true:=(XD hp l l).2 rfl
set_option maxRecDepth 100000 in
set_option maxHeartbeats 2000000 in
theorem QbZ(l:Lev)(A A' E E':Option Addr)(c c' k k':Nat)(w:World)(h:Sl w 4 Qc A l.walls.length l.walls)(h':Sl w 4 Qc A' l.gates.length l.gates)(g:Sl w 4 Qc E l.walls.length l.walls)(g':Sl w 4 Qc E' l.gates.length l.gates)(hn:l.walls.length≤2097152)(hn':l.gates.length≤2097152):
 Calls Sq.prog 12 #[.agg #[.int .i64 l.id,.int .i64 l.ticks,.int .i64 l.start.x,.int .i64 l.start.y,.slice A l.walls.length c,.slice A' l.gates.length c',.int .i64 l.fin.lo.x,.int .i64 l.fin.lo.y,.int .i64 l.fin.hi.x,.int .i64 l.fin.hi.y,.int .i64 l.bans],.agg #[.int .i64 l.id,.int .i64 l.ticks,.int .i64 l.start.x,.int .i64 l.start.y,.slice E l.walls.length k,.slice E' l.gates.length k',.int .i64 l.fin.lo.x,.int .i64 l.fin.lo.y,.int .i64 l.fin.hi.x,.int .i64 l.fin.hi.y,.int .i64 l.bans]] w fun e w'=>e= .returned (.bool (true))∧Below w.heap.size w w':=by
 go_enter Sq.func12, Tryz.ntmps12
 go_wp2_with fail
 refine(QcU l.start l.start _).mono ?_
 rw[QoY]
 rintro e w1 ⟨rfl,hb1⟩
 have P1:Bk w1 w.heap.size 42 #[.int .i64 l.id,.int .i64 l.ticks,.int .i64 l.start.x,.int .i64 l.start.y,.slice A l.walls.length c,.slice A' l.gates.length c',.int .i64 l.fin.lo.x,.int .i64 l.fin.lo.y,.int .i64 l.fin.hi.x,.int .i64 l.fin.hi.y,.int .i64 l.bans]:=Bk.later ((Bk.new _ _ _ rfl).alloc _) hb1
 have Q1:Bk w1 (w.heap.size+1) 42 #[.int .i64 l.id,.int .i64 l.ticks,.int .i64 l.start.x,.int .i64 l.start.y,.slice E l.walls.length k,.slice E' l.gates.length k',.int .i64 l.fin.lo.x,.int .i64 l.fin.lo.y,.int .i64 l.fin.hi.x,.int .i64 l.fin.hi.y,.int .i64 l.bans]:=Bk.later (Bk.new _ _ _ (by simp)) hb1
 have d1:Below w.heap.size w w1:=by(with_reducible repeat first|assumption|exact bl0 _ _|refine blA ?_ _|(refine blS ?_ ?_ _;(simp<;>omega))|refine blD ?_|refine blN ?_ _|refine blF ?_ ‹_›)
 clear hb1
 obtain⟨⟨p0,p1,p2,p3,p4,p5,p6,p7,p8,p9,p10⟩,pf⟩:=P1.c11;obtain⟨⟨q0,q1,q2,q3,q4,q5,q6,q7,q8,q9,q10⟩,qf⟩:=Q1.c11
 go_wp2_with fail
 refine(Qh4 A E l.walls.length l.walls.length c k l.walls l.walls _ (h.below (by(with_reducible repeat first|assumption|exact bl0 _ _|refine blA ?_ _|(refine blS ?_ ?_ _;(simp<;>omega))|refine blD ?_|refine blN ?_ _|refine blF ?_ ‹_›))) (g.below (by(with_reducible repeat first|assumption|exact bl0 _ _|refine blA ?_ _|(refine blS ?_ ?_ _;(simp<;>omega))|refine blD ?_|refine blN ?_ _|refine blF ?_ ‹_›))) hn hn).mono ?_
 rw[QbY QbW]
 rintro e w2 ⟨rfl,hb2⟩
 have P2:Bk w2 w.heap.size 42 #[.int .i64 l.id,.int .i64 l.ticks,.int .i64 l.start.x,.int .i64 l.start.y,.slice A l.walls.length c,.slice A' l.gates.length c',.int .i64 l.fin.lo.x,.int .i64 l.fin.lo.y,.int .i64 l.fin.hi.x,.int .i64 l.fin.hi.y,.int .i64 l.bans]:=P1.later hb2
 have Q2:Bk w2 (w.heap.size+1) 42 #[.int .i64 l.id,.int .i64 l.ticks,.int .i64 l.start.x,.int .i64 l.start.y,.slice E l.walls.length k,.slice E' l.gates.length k',.int .i64 l.fin.lo.x,.int .i64 l.fin.lo.y,.int .i64 l.fin.hi.x,.int .i64 l.fin.hi.y,.int .i64 l.bans]:=Q1.later hb2
 have d2:Below w.heap.size w w2:=by(with_reducible repeat first|assumption|exact bl0 _ _|refine blA ?_ _|(refine blS ?_ ?_ _;(simp<;>omega))|refine blD ?_|refine blN ?_ _|refine blF ?_ ‹_›)
 clear hb2 p0 p1 p2 p3 p4 p5 p6 p7 p8 p9 p10 pf q0 q1 q2 q3 q4 q5 q6 q7 q8 q9 q10 qf P1 Q1 d1
 obtain⟨⟨p0,p1,p2,p3,p4,p5,p6,p7,p8,p9,p10⟩,pf⟩:=P2.c11;obtain⟨⟨q0,q1,q2,q3,q4,q5,q6,q7,q8,q9,q10⟩,qf⟩:=Q2.c11
 go_wp2_with fail
 refine(Qh4 A' E' l.gates.length l.gates.length c' k' l.gates l.gates _ (h'.below (by(with_reducible repeat first|assumption|exact bl0 _ _|refine blA ?_ _|(refine blS ?_ ?_ _;(simp<;>omega))|refine blD ?_|refine blN ?_ _|refine blF ?_ ‹_›))) (g'.below (by(with_reducible repeat first|assumption|exact bl0 _ _|refine blA ?_ _|(refine blS ?_ ?_ _;(simp<;>omega))|refine blD ?_|refine blN ?_ _|refine blF ?_ ‹_›))) hn' hn').mono ?_
 rw[QbY QbW]
 rintro e w3 ⟨rfl,hb3⟩
 have P3:Bk w3 w.heap.size 42 #[.int .i64 l.id,.int .i64 l.ticks,.int .i64 l.start.x,.int .i64 l.start.y,.slice A l.walls.length c,.slice A' l.gates.length c',.int .i64 l.fin.lo.x,.int .i64 l.fin.lo.y,.int .i64 l.fin.hi.x,.int .i64 l.fin.hi.y,.int .i64 l.bans]:=P2.later hb3
 have Q3:Bk w3 (w.heap.size+1) 42 #[.int .i64 l.id,.int .i64 l.ticks,.int .i64 l.start.x,.int .i64 l.start.y,.slice E l.walls.length k,.slice E' l.gates.length k',.int .i64 l.fin.lo.x,.int .i64 l.fin.lo.y,.int .i64 l.fin.hi.x,.int .i64 l.fin.hi.y,.int .i64 l.bans]:=Q2.later hb3
 have d3:Below w.heap.size w w3:=by(with_reducible repeat first|assumption|exact bl0 _ _|refine blA ?_ _|(refine blS ?_ ?_ _;(simp<;>omega))|refine blD ?_|refine blN ?_ _|refine blF ?_ ‹_›)
 clear hb3 p0 p1 p2 p3 p4 p5 p6 p7 p8 p9 p10 pf q0 q1 q2 q3 q4 q5 q6 q7 q8 q9 q10 qf P2 Q2 d2
 obtain⟨⟨p0,p1,p2,p3,p4,p5,p6,p7,p8,p9,p10⟩,pf⟩:=P3.c11;obtain⟨⟨q0,q1,q2,q3,q4,q5,q6,q7,q8,q9,q10⟩,qf⟩:=Q3.c11
 go_wp2_with fail
 refine(Qh5 l.fin l.fin _).mono ?_
 rw[QoS]
 rintro e w4 ⟨rfl,hb4⟩
 have P4:Bk w4 w.heap.size 42 #[.int .i64 l.id,.int .i64 l.ticks,.int .i64 l.start.x,.int .i64 l.start.y,.slice A l.walls.length c,.slice A' l.gates.length c',.int .i64 l.fin.lo.x,.int .i64 l.fin.lo.y,.int .i64 l.fin.hi.x,.int .i64 l.fin.hi.y,.int .i64 l.bans]:=P3.later hb4
 have Q4:Bk w4 (w.heap.size+1) 42 #[.int .i64 l.id,.int .i64 l.ticks,.int .i64 l.start.x,.int .i64 l.start.y,.slice E l.walls.length k,.slice E' l.gates.length k',.int .i64 l.fin.lo.x,.int .i64 l.fin.lo.y,.int .i64 l.fin.hi.x,.int .i64 l.fin.hi.y,.int .i64 l.bans]:=Q3.later hb4
 have d4:Below w.heap.size w w4:=by(with_reducible repeat first|assumption|exact bl0 _ _|refine blA ?_ _|(refine blS ?_ ?_ _;(simp<;>omega))|refine blD ?_|refine blN ?_ _|refine blF ?_ ‹_›)
 clear hb4 p0 p1 p2 p3 p4 p5 p6 p7 p8 p9 p10 pf q0 q1 q2 q3 q4 q5 q6 q7 q8 q9 q10 qf P3 Q3 d3
 obtain⟨⟨p0,p1,p2,p3,p4,p5,p6,p7,p8,p9,p10⟩,pf⟩:=P4.c11;obtain⟨⟨q0,q1,q2,q3,q4,q5,q6,q7,q8,q9,q10⟩,qf⟩:=Q4.c11
 go_wp2
 go_ret
 exact⟨rfl,by(with_reducible repeat first|assumption|exact bl0 _ _|refine blA ?_ _|(refine blS ?_ ?_ _;(simp<;>omega))|refine blD ?_|refine blN ?_ _|refine blF ?_ ‹_›)⟩
end Go.Proofs.YtgaimkihacljdaaGreat
/- Small laws of sizes; two levels' cells stand. (Round B) -/
namespace Go.Proofs.YtgaimkihacljdaaGreat
open Go.ChangeShapes Go.WideShapes Go.ChangeAt Go.RowKit
theorem QcF{n n':Nat}: -1≤JC n n' 1048576∧JC n n' 1048576≤1048576:=by
 unfold JC szL
 (repeat' split)<;>omega
theorem QcG{n n':Nat}(h: ¬JC n n' 1048576<0):n≤1048576∧n'≤1048576:=by
 unfold JC szL at h
 (repeat' split at h)<;>omega
theorem Qd1{n:Nat}{k:Int}(hk:k≤1048576)(h: ¬szL n k<0):n≤1048576:=by
 unfold szL at h
 split at h<;>omega
theorem Jh{W w':World}{g g':Nat}{t t':TypeId}{v0 v1 v2 v3 v4 v5 v6 v7 v8 v9 v10 u0 u1 u2 u3 u4 u5 u6 u7 u8 u9 u10:Value}(h:Bk W g t #[v0,v1,v2,v3,v4,v5,v6,v7,v8,v9,v10])(h':Bk W g' t' #[u0,u1,u2,u3,u4,u5,u6,u7,u8,u9,u10])(hb:Below W.heap.size W w'):
 (w'.cell? ⟨g,0,none⟩=some v0∧w'.cell? ⟨g,1,none⟩=some v1∧w'.cell? ⟨g,2,none⟩=some v2∧w'.cell? ⟨g,3,none⟩=some v3∧w'.cell? ⟨g,4,none⟩=some v4∧w'.cell? ⟨g,5,none⟩=some v5∧w'.cell? ⟨g,6,none⟩=some v6∧w'.cell? ⟨g,7,none⟩=some v7∧w'.cell? ⟨g,8,none⟩=some v8∧w'.cell? ⟨g,9,none⟩=some v9∧w'.cell? ⟨g,10,none⟩=some v10)∧
 (w'.cell? ⟨g',0,none⟩=some u0∧w'.cell? ⟨g',1,none⟩=some u1∧w'.cell? ⟨g',2,none⟩=some u2∧w'.cell? ⟨g',3,none⟩=some u3∧w'.cell? ⟨g',4,none⟩=some u4∧w'.cell? ⟨g',5,none⟩=some u5∧w'.cell? ⟨g',6,none⟩=some u6∧w'.cell? ⟨g',7,none⟩=some u7∧w'.cell? ⟨g',8,none⟩=some u8∧w'.cell? ⟨g',9,none⟩=some u9∧w'.cell? ⟨g',10,none⟩=some u10):=⟨(h.later hb).c11.1,(h'.later hb).c11.1⟩
end Go.Proofs.YtgaimkihacljdaaGreat
