/- Lemmas: ImpJ ImpK ImpL Chan ImpM ImpN ImpO DrK ImpP ImpQ. -/
import Derived.Test.YtgaimkihacljdaaGreatZImpC
import Derived.Test.YtgaimkihacljdaaGreatZSpec
import Derived.Maps.Own
import Derived.Maps.OwnOps
import Derived.StringKeys
import Derived.Test.YtgaimkihacljdaaGreatZBase
import Derived.Conc.LoneCalls
import Derived.Test.YtgaimkihacljdaaGreatZRun
import Derived.Test.YtgaimkihacljdaaGreatZRepl
import Derived.Test.YtgaimkihacljdaaGreatZHead
import Derived.Deep.DeepMust
import Derived.Deep.RegionHeld3
/- What is forbidden in a level: a map. (Round B) -/
namespace Go.Proofs.YtgaimkihacljdaaGreat
open Go.ChangeShapes Go.WideShapes Go.ChangeAt Go.RowKit Go.Maps
theorem QpY(l:Lev)(q:Int)(A A':Option Addr)(c c':Nat)(w:World)(h0:0≤l.bans)(h1:l.bans≤3)(hq:q=1∨q=2):Calls Sq.prog 81 #[.agg #[.int .i64 l.id,.int .i64 l.ticks,.int .i64 l.start.x,.int .i64 l.start.y,.slice A l.walls.length c,.slice A' l.gates.length c',.int .i64 l.fin.lo.x,.int .i64 l.fin.lo.y,.int .i64 l.fin.hi.x,.int .i64 l.fin.hi.y,.int .i64 l.bans],.int .i64 q] w fun e w'=>e= .returned (.bool (banB l q))∧Below w.heap.size w w':=by
 have hb:(bits .and .i64 l.bans q == 0)= !banB l q:=by
  obtain h|h|h|h:l.bans=0∨l.bans=1∨l.bans=2∨l.bans=3:=by omega
  all_goals
   unfold banB
   rw[h]
   rcases hq with rfl|rfl<;>rfl
 go_enter Sq.func81, Tryz.ntmps81
 go_wp2
 go_ret
 exact⟨Qs (by rw[bne,hb];simp),by(with_reducible repeat first|assumption|exact bl0 _ _|refine blA ?_ _|(refine blS ?_ ?_ _;(simp<;>omega))|refine blD ?_|refine blN ?_ _|refine blF ?_ ‹_›)⟩
section
variable {P : Program} {k : TypeId} {R : Value → Option (DataW Unit × List MemPlace)} {b n : Nat} {D : DataW Unit} {w w' : World}
theorem QdQ(w:World):(w.alloc (.map #[] 0)).ownsMap P k R w.heap.size 0 (.map []):=World.ownsMap_made _ _ _ _
theorem Qgw(w:World):(w.drew.alloc (.map #[] 0)).ownsMap P k R w.heap.size 0 (.map []):=World.ownsMap_made w.drew _ _ _
theorem Qau(h:w.ownsMap P k R b n D)(hb:Below w.heap.size w w'):w'.ownsMap P k R b n D:=by
 obtain⟨es,clock,h1,h2⟩:=h
 exact⟨es,clock,(hb.block b (Array.getElem?_eq_some_iff.1 h1).1).trans h1,h2⟩
theorem QaA{o:Oper}{a:Act}{K:Act→World→Prop}{Q:Exit→Act→World→Prop}{t e:TypeId}(hK:Keyed P k)(ht:P.underlying t=some (.map k e))(he:P.underlying e=some .bool)
 (hown:w.ownsMap P k (plainElem P e) b n D)(hn:n<maxLen){key:Value}{y:Bool}{kl:Lit}(hkey:keyOf P k key=some kl)
 (h: ∀w',w'.ownsMap P k (plainElem P e) b (n+1) (D.put kl (.lit (.bool y)))→w.grownBy w' (some b)→K (a.put o.dst undef) w'):
 Oper.upon P o a K Q (((Instr.mapUpdate t (.map (some b)) key (.bool y)).run P w).andThen fun _ w'=> .ok .skip w'):=by
 obtain⟨w',hrun,r1,r2⟩:=hown.update hK ht hn hkey (plainElem_bool he y)
 rw[hrun]
 exact h w' r1 r2
end
theorem Qai{W w w':World}{b:Nat}(h:Below W.heap.size W w)(hg:w.grownBy w' (some b))(hb:W.heap.size≤b):Below W.heap.size W w':=h.grown hg h.size (fun k e=>by cases e;exact hb)
def QaJ:Lit:= .string [98,114,97,107,101]
def Qa5:Lit:= .string [112,97,117,115,101]
theorem Qae:Keyed Sq.prog 9:=string_keyed (Sq.und Tryz.underlying9)
theorem Qcg:keyOf Sq.prog 9 (.string ⟨#[98,114,97,107,101]⟩)=some QaJ:=WideMaps.keyOf_string_mk (Sq.und Tryz.underlying9) (by decide)
theorem Qc6:keyOf Sq.prog 9 (.string ⟨#[112,97,117,115,101]⟩)=some Qa5:=WideMaps.keyOf_string_mk (Sq.und Tryz.underlying9) (by decide)
theorem Qqz{W w':World}{g:Nat}{t:TypeId}{v0 v1 v2 v3 v4 v5 v6 v7 v8 v9 v10:Value}(h:Bk W g t #[v0,v1,v2,v3,v4,v5,v6,v7,v8,v9,v10])(hb:Below W.heap.size W w'):w'.cell? ⟨g,0,none⟩=some v0∧w'.cell? ⟨g,1,none⟩=some v1∧w'.cell? ⟨g,2,none⟩=some v2∧w'.cell? ⟨g,3,none⟩=some v3∧w'.cell? ⟨g,4,none⟩=some v4∧w'.cell? ⟨g,5,none⟩=some v5∧w'.cell? ⟨g,6,none⟩=some v6∧w'.cell? ⟨g,7,none⟩=some v7∧w'.cell? ⟨g,8,none⟩=some v8∧w'.cell? ⟨g,9,none⟩=some v9∧w'.cell? ⟨g,10,none⟩=some v10:=(h.later hb).c11.1
theorem atB4(x y:Bool):(((DataW.map []:DataW Unit).put QaJ (.lit (.bool x))).put Qa5 (.lit (.bool y))).atKey QaJ (.lit (.bool false))= .lit (.bool x):=by rfl
theorem atP4(x y:Bool):(((DataW.map []:DataW Unit).put QaJ (.lit (.bool x))).put Qa5 (.lit (.bool y))).atKey Qa5 (.lit (.bool false))= .lit (.bool y):=by rfl
theorem atB3(x y:Bool):(((DataW.map []:DataW Unit).put Qa5 (.lit (.bool y))).put QaJ (.lit (.bool x))).atKey QaJ (.lit (.bool false))= .lit (.bool x):=by rfl
theorem atP3(x y:Bool):(((DataW.map []:DataW Unit).put Qa5 (.lit (.bool y))).put QaJ (.lit (.bool x))).atKey Qa5 (.lit (.bool false))= .lit (.bool y):=by rfl
def Forb(b1 b2:Bool)(w:World)(e:Ending)(w':World):Prop:=∃(b:Nat) (D:DataW Unit),e= .returned (.map (some b))∧w'.ownsMap Sq.prog 9 (plainElem Sq.prog 4) b 2 D∧D.atKey QaJ (.lit (.bool false))= .lit (.bool b1)∧D.atKey Qa5 (.lit (.bool false))= .lit (.bool b2)∧Below w.heap.size w w'
set_option maxRecDepth 100000 in
set_option maxHeartbeats 4000000 in
theorem QiO(l:Lev)(A A':Option Addr)(c c':Nat)(w:World)(h0:0≤l.bans)(h1:l.bans≤3):Calls Sq.prog 63 #[.agg #[.int .i64 l.id,.int .i64 l.ticks,.int .i64 l.start.x,.int .i64 l.start.y,.slice A l.walls.length c,.slice A' l.gates.length c',.int .i64 l.fin.lo.x,.int .i64 l.fin.lo.y,.int .i64 l.fin.hi.x,.int .i64 l.fin.hi.y,.int .i64 l.bans]] w (Forb (banB l 1) (banB l 2) w):=by
 have hmm:= @run_makeMap Sq.prog
 go_enter Sq.func63, Tryz.ntmps63
 go_wp2
 refine Xq (fun W=>Bk W w.heap.size 42 #[.int .i64 l.id,.int .i64 l.ticks,.int .i64 l.start.x,.int .i64 l.start.y,.slice A l.walls.length c,.slice A' l.gates.length c',.int .i64 l.fin.lo.x,.int .i64 l.fin.lo.y,.int .i64 l.fin.hi.x,.int .i64 l.fin.hi.y,.int .i64 l.bans]∧Below w.heap.size w W) ⟨by(repeat first|(with_reducible first|assumption|exact kN _ _ _ (by simp)|refine kA ?_ _|refine kD ?_|refine kW ?_ _|apply Bk.set'|refine kF ?_ (by simp<;>omega) _|refine kL ?_ ‹_›|refine kG ?_ ‹_› (by first|omega|simp<;>omega))|exact⟨by with_reducible rfl⟩|exact⟨by simp⟩),by(with_reducible repeat first|exact bl0 _ _|refine blA ?_ _|(refine blS ?_ ?_ _;(simp<;>omega))|refine blD ?_|refine blN ?_ _|refine blF ?_ ‹_›)⟩ ?_
 rintro W ⟨hL,hd⟩
 have zL:=hL.lt
 go_region_held3 (fun w'=>w'.cell? ⟨w.heap.size,0,none⟩=some (.int .i64 l.id)∧w'.cell? ⟨w.heap.size,1,none⟩=some (.int .i64 l.ticks)∧w'.cell? ⟨w.heap.size,2,none⟩=some (.int .i64 l.start.x)∧w'.cell? ⟨w.heap.size,3,none⟩=some (.int .i64 l.start.y)∧w'.cell? ⟨w.heap.size,4,none⟩=some (.slice A l.walls.length c)∧w'.cell? ⟨w.heap.size,5,none⟩=some (.slice A' l.gates.length c')∧w'.cell? ⟨w.heap.size,6,none⟩=some (.int .i64 l.fin.lo.x)∧w'.cell? ⟨w.heap.size,7,none⟩=some (.int .i64 l.fin.lo.y)∧w'.cell? ⟨w.heap.size,8,none⟩=some (.int .i64 l.fin.hi.x)∧w'.cell? ⟨w.heap.size,9,none⟩=some (.int .i64 l.fin.hi.y)∧w'.cell? ⟨w.heap.size,10,none⟩=some (.int .i64 l.bans))
  (first|(with_reducible exact Qqz hL (by(with_reducible repeat first|assumption|exact bl0 _ _|refine blA ?_ _|(refine blS ?_ ?_ _;(simp<;>omega))|refine blD ?_|refine blN ?_ _|refine blF ?_ ‹_›))))
  (first
  |(go_at_call 81;refine(QpY l _ A A' c c' _ h0 h1 (by first|exact .inl rfl|exact .inr rfl)).mono ?_;first|(have q:=hb1;clear q;rintro e w2 ⟨rfl,hb2⟩)|rintro e w1 ⟨rfl,hb1⟩)
  |(refine QaA (n:=1) (D:=(DataW.map []).put Qa5 (.lit (.bool (banB l 2)))) Qae (Sq.und Tryz.underlying103) (Sq.und Tryz.underlying4) (hown4) (by unfold maxLen;omega) Qcg ?_;intro w3 hown3 hg3;have hd3:Below W.heap.size W w3:=Qai (by(with_reducible repeat first|assumption|exact bl0 _ _|refine blA ?_ _|(refine blS ?_ ?_ _;(simp<;>omega))|refine blD ?_|refine blN ?_ _|refine blF ?_ ‹_›)) hg3 (by first|exact Nat.le_refl _|(have q1:=hb1.size;simp at q1;omega)|(have q1:=hb1.size;have q2:=hb2.size;simp at q1 q2;omega)))
  |(refine QaA (n:=0) (D:= .map []) Qae (Sq.und Tryz.underlying103) (Sq.und Tryz.underlying4) (Qau (Qau (Qgw W) hb1) hb2) (by unfold maxLen;omega) Qcg ?_;intro w3 hown3 hg3;have hd3:Below W.heap.size W w3:=Qai (by(with_reducible repeat first|assumption|exact bl0 _ _|refine blA ?_ _|(refine blS ?_ ?_ _;(simp<;>omega))|refine blD ?_|refine blN ?_ _|refine blF ?_ ‹_›)) hg3 (by first|exact Nat.le_refl _|(have q1:=hb1.size;simp at q1;omega)|(have q1:=hb1.size;have q2:=hb2.size;simp at q1 q2;omega)))
  |(refine QaA (n:=0) (D:= .map []) Qae (Sq.und Tryz.underlying103) (Sq.und Tryz.underlying4) (Qau (QdQ w1) hb2) (by unfold maxLen;omega) Qcg ?_;intro w3 hown3 hg3;have hd3:Below W.heap.size W w3:=Qai (by(with_reducible repeat first|assumption|exact bl0 _ _|refine blA ?_ _|(refine blS ?_ ?_ _;(simp<;>omega))|refine blD ?_|refine blN ?_ _|refine blF ?_ ‹_›)) hg3 (by first|exact Nat.le_refl _|(have q1:=hb1.size;simp at q1;omega)|(have q1:=hb1.size;have q2:=hb2.size;simp at q1 q2;omega)))
  |(refine QaA (n:=0) (D:= .map []) Qae (Sq.und Tryz.underlying103) (Sq.und Tryz.underlying4) (QdQ w2) (by unfold maxLen;omega) Qcg ?_;intro w3 hown3 hg3;have hd3:Below W.heap.size W w3:=Qai (by(with_reducible repeat first|assumption|exact bl0 _ _|refine blA ?_ _|(refine blS ?_ ?_ _;(simp<;>omega))|refine blD ?_|refine blN ?_ _|refine blF ?_ ‹_›)) hg3 (by first|exact Nat.le_refl _|(have q1:=hb1.size;simp at q1;omega)|(have q1:=hb1.size;have q2:=hb2.size;simp at q1 q2;omega)))
  |(refine QaA (n:=0) (D:= .map []) Qae (Sq.und Tryz.underlying103) (Sq.und Tryz.underlying4) (Qau (Qgw W) hb1) (by unfold maxLen;omega) Qcg ?_;intro w3 hown3 hg3;have hd3:Below W.heap.size W w3:=Qai (by(with_reducible repeat first|assumption|exact bl0 _ _|refine blA ?_ _|(refine blS ?_ ?_ _;(simp<;>omega))|refine blD ?_|refine blN ?_ _|refine blF ?_ ‹_›)) hg3 (by first|exact Nat.le_refl _|(have q1:=hb1.size;simp at q1;omega)|(have q1:=hb1.size;have q2:=hb2.size;simp at q1 q2;omega)))
  |(refine QaA (n:=0) (D:= .map []) Qae (Sq.und Tryz.underlying103) (Sq.und Tryz.underlying4) (QdQ w1) (by unfold maxLen;omega) Qcg ?_;intro w3 hown3 hg3;have hd3:Below W.heap.size W w3:=Qai (by(with_reducible repeat first|assumption|exact bl0 _ _|refine blA ?_ _|(refine blS ?_ ?_ _;(simp<;>omega))|refine blD ?_|refine blN ?_ _|refine blF ?_ ‹_›)) hg3 (by first|exact Nat.le_refl _|(have q1:=hb1.size;simp at q1;omega)|(have q1:=hb1.size;have q2:=hb2.size;simp at q1 q2;omega)))
  |(refine QaA (n:=1) (D:=(DataW.map []).put QaJ (.lit (.bool (banB l 1)))) Qae (Sq.und Tryz.underlying103) (Sq.und Tryz.underlying4) (hown3) (by unfold maxLen;omega) Qc6 ?_;intro w4 hown4 hg4;have hd4:Below W.heap.size W w4:=Qai (by(with_reducible repeat first|assumption|exact bl0 _ _|refine blA ?_ _|(refine blS ?_ ?_ _;(simp<;>omega))|refine blD ?_|refine blN ?_ _|refine blF ?_ ‹_›)) hg4 (by first|exact Nat.le_refl _|(have q1:=hb1.size;simp at q1;omega)|(have q1:=hb1.size;have q2:=hb2.size;simp at q1 q2;omega)))
  |(refine QaA (n:=1) (D:=(DataW.map []).put QaJ (.lit (.bool (banB l 1)))) Qae (Sq.und Tryz.underlying103) (Sq.und Tryz.underlying4) (Qau hown3 hb2) (by unfold maxLen;omega) Qc6 ?_;intro w4 hown4 hg4;have hd4:Below W.heap.size W w4:=Qai (by(with_reducible repeat first|assumption|exact bl0 _ _|refine blA ?_ _|(refine blS ?_ ?_ _;(simp<;>omega))|refine blD ?_|refine blN ?_ _|refine blF ?_ ‹_›)) hg4 (by first|exact Nat.le_refl _|(have q1:=hb1.size;simp at q1;omega)|(have q1:=hb1.size;have q2:=hb2.size;simp at q1 q2;omega)))
  |(refine QaA (n:=0) (D:= .map []) Qae (Sq.und Tryz.underlying103) (Sq.und Tryz.underlying4) (Qau (Qau (Qgw W) hb1) hb2) (by unfold maxLen;omega) Qc6 ?_;intro w4 hown4 hg4;have hd4:Below W.heap.size W w4:=Qai (by(with_reducible repeat first|assumption|exact bl0 _ _|refine blA ?_ _|(refine blS ?_ ?_ _;(simp<;>omega))|refine blD ?_|refine blN ?_ _|refine blF ?_ ‹_›)) hg4 (by first|exact Nat.le_refl _|(have q1:=hb1.size;simp at q1;omega)|(have q1:=hb1.size;have q2:=hb2.size;simp at q1 q2;omega)))
  |(refine QaA (n:=0) (D:= .map []) Qae (Sq.und Tryz.underlying103) (Sq.und Tryz.underlying4) (Qau (QdQ w1) hb2) (by unfold maxLen;omega) Qc6 ?_;intro w4 hown4 hg4;have hd4:Below W.heap.size W w4:=Qai (by(with_reducible repeat first|assumption|exact bl0 _ _|refine blA ?_ _|(refine blS ?_ ?_ _;(simp<;>omega))|refine blD ?_|refine blN ?_ _|refine blF ?_ ‹_›)) hg4 (by first|exact Nat.le_refl _|(have q1:=hb1.size;simp at q1;omega)|(have q1:=hb1.size;have q2:=hb2.size;simp at q1 q2;omega)))
  |(refine QaA (n:=0) (D:= .map []) Qae (Sq.und Tryz.underlying103) (Sq.und Tryz.underlying4) (QdQ w2) (by unfold maxLen;omega) Qc6 ?_;intro w4 hown4 hg4;have hd4:Below W.heap.size W w4:=Qai (by(with_reducible repeat first|assumption|exact bl0 _ _|refine blA ?_ _|(refine blS ?_ ?_ _;(simp<;>omega))|refine blD ?_|refine blN ?_ _|refine blF ?_ ‹_›)) hg4 (by first|exact Nat.le_refl _|(have q1:=hb1.size;simp at q1;omega)|(have q1:=hb1.size;have q2:=hb2.size;simp at q1 q2;omega))))
 all_goals
  go_wp2
  go_ret
  first
  |exact⟨_,_,rfl,hown4,atB4 _ _,atP4 _ _,hd.trans (hd4.mono hd.size)⟩
  |exact⟨_,_,rfl,hown3,atB3 _ _,atP3 _ _,hd.trans (hd3.mono hd.size)⟩
end Go.Proofs.YtgaimkihacljdaaGreat
/- What follows what; QC inputs; a run begins. (Round B) -/
namespace Go.Proofs.YtgaimkihacljdaaGreat
open Go.ChangeShapes Go.WideShapes Go.ChangeAt Go.RowKit Go.Maps
set_option maxRecDepth 100000 in
theorem Qjz{w:World}{b n:Nat}{D:DataW Unit}(h:w.ownsMap Sq.prog 9 (plainElem Sq.prog 4) b n D){key:Value}{kl:Lit}(hk:keyOf Sq.prog 9 key=some kl){y:Bool}(hy:D.atKey kl (.lit (.bool false))= .lit (.bool y)):
 (Instr.lookup 103 (.map (some b)) key false).run Sq.prog w= .ok (.bool y) w:=by
 obtain⟨v,ps,hrun,hv⟩:=h.lookup Qae (Sq.und Tryz.underlying103) (z:= .bool false) (by kernel_rfl) (plainElem_bool (Sq.und Tryz.underlying4) false) hk
 rw[hy] at hv
 have:v= .bool y:=by
  unfold plainElem at hv
  rw[(Sq.und Tryz.underlying4)] at hv
  cases v<;>simp at hv
  rw[hv.1]
 rw[hrun,this]
theorem QiM(l:Lev)(A A':Option Addr)(c c':Nat)(w:World)(h:Sl w 4 Qc A l.walls.length l.walls)(hg:Sl w 4 Qc A' l.gates.length l.gates)(e:A=none→c=0)(e':A'=none→c'=0)(hn:(l.walls.length:Nat)≤9223372036854775807)(hn':(l.gates.length:Nat)≤9223372036854775807)(hl:QE l=true):
 Calls Sq.prog 69 #[.agg #[.int .i64 l.id,.int .i64 l.ticks,.int .i64 l.start.x,.int .i64 l.start.y,.slice A l.walls.length c,.slice A' l.gates.length c',.int .i64 l.fin.lo.x,.int .i64 l.fin.lo.y,.int .i64 l.fin.hi.x,.int .i64 l.fin.hi.y,.int .i64 l.bans]] w fun e w'=>e= .returned (.tuple #[.agg #[.int .i64 (st0 l).t,.int .i64 (st0 l).p.x,.int .i64 (st0 l).p.y,.int .i64 (st0 l).f.x,.int .i64 (st0 l).f.y,.int .i64 (st0 l).d,.int .i64 (st0 l).g,.bool (st0 l).dn,.bool (st0 l).ov],.bool true])∧Below w.heap.size w w':=by
 go_enter Sq.func69, Tryz.ntmps69
 go_wp2_with fail
 refine(Zi l A A' c c' _ (h.below (by(with_reducible repeat first|assumption|exact bl0 _ _|refine blA ?_ _|(refine blS ?_ ?_ _;(simp<;>omega))|refine blD ?_|refine blN ?_ _|refine blF ?_ ‹_›))) (hg.below (by(with_reducible repeat first|assumption|exact bl0 _ _|refine blA ?_ _|(refine blS ?_ ?_ _;(simp<;>omega))|refine blD ?_|refine blN ?_ _|refine blF ?_ ‹_›))) e e' hn hn').mono ?_
 rw[hl]
 rintro e w1 ⟨rfl,hb1⟩
 have L1:Bk w1 w.heap.size 42 #[.int .i64 l.id,.int .i64 l.ticks,.int .i64 l.start.x,.int .i64 l.start.y,.slice A l.walls.length c,.slice A' l.gates.length c',.int .i64 l.fin.lo.x,.int .i64 l.fin.lo.y,.int .i64 l.fin.hi.x,.int .i64 l.fin.hi.y,.int .i64 l.bans]:=Bk.later (by(repeat first|(with_reducible first|assumption|exact kN _ _ _ (by simp)|refine kA ?_ _|refine kD ?_|refine kW ?_ _|apply Bk.set'|refine kF ?_ (by simp<;>omega) _|refine kL ?_ ‹_›|refine kG ?_ ‹_› (by first|omega|simp<;>omega))|exact⟨by with_reducible rfl⟩|exact⟨by simp⟩)) hb1
 have R1:Bk w1 (w.heap.size+1) 72 #[.int .i64 0,.int .i64 0,.int .i64 0,.int .i64 0,.int .i64 0,.int .i64 0,.int .i64 0,.bool false,.bool false]:=Bk.later (by(repeat first|(with_reducible first|assumption|exact kN _ _ _ (by simp)|refine kA ?_ _|refine kD ?_|refine kW ?_ _|apply Bk.set'|refine kF ?_ (by simp<;>omega) _|refine kL ?_ ‹_›|refine kG ?_ ‹_› (by first|omega|simp<;>omega))|exact⟨by with_reducible rfl⟩|exact⟨by simp⟩)) hb1
 have B1:Below w.heap.size w w1:=by(with_reducible repeat first|assumption|exact bl0 _ _|refine blA ?_ _|(refine blS ?_ ?_ _;(simp<;>omega))|refine blD ?_|refine blN ?_ _|refine blF ?_ ‹_›)
 clear hb1
 obtain⟨⟨l0,l1,l2,l3,l4,l5,l6,l7,l8,l9,l10⟩,lf⟩:=L1.c11;obtain⟨⟨r0,r1,r2,r3,r4,r5,r6,r7,r8⟩,rf⟩:=R1.c9
 go_wp2
 refine bodyPost_ret (v:= .tuple #[.agg #[.int .i64 (st0 l).t,.int .i64 (st0 l).p.x,.int .i64 (st0 l).p.y,.int .i64 (st0 l).f.x,.int .i64 (st0 l).f.y,.int .i64 (st0 l).d,.int .i64 (st0 l).g,.bool (st0 l).dn,.bool (st0 l).ov],.bool true]) (by simp[results, Tryz.results69,go_sem,st0, *]) rfl ⟨rfl,?_⟩
 (with_reducible repeat first|assumption|exact bl0 _ _|refine blA ?_ _|(refine blS ?_ ?_ _;(simp<;>omega))|refine blD ?_|refine blN ?_ _|refine blF ?_ ‹_›)
set_option maxRecDepth 100000 in
set_option maxHeartbeats 2000000 in
theorem QiN(l:Lev)(st:Int)(x:Inp)(A A':Option Addr)(c c':Nat)(w:World)(h0:0≤l.bans)(h1:l.bans≤3)(b1: -1≤st)(b2:st≤1):
 Calls Sq.prog 43 #[.agg #[.int .i64 l.id,.int .i64 l.ticks,.int .i64 l.start.x,.int .i64 l.start.y,.slice A l.walls.length c,.slice A' l.gates.length c',.int .i64 l.fin.lo.x,.int .i64 l.fin.lo.y,.int .i64 l.fin.hi.x,.int .i64 l.fin.hi.y,.int .i64 l.bans],.int .i64 st,.agg #[.int .i64 x.s,.int .i64 x.p,.bool x.z]] w fun e w'=>e= .returned (.bool (folB l st x))∧Below w.heap.size w w':=by
 obtain⟨xs,xp,xz⟩:=x
 cases hok:QT ⟨xs,xp,xz⟩
 ·have hR:Hid (folB l st ⟨xs,xp,xz⟩=false):=Lib.hid (by unfold folB;rw[hok];rfl)
  go_enter Sq.func43, Tryz.ntmps43
  go_wp2_with fail
  refine(QiO l A A' c c' _ h0 h1).mono ?_
  rintro e w1 ⟨b,D,rfl,hM,hB,hP,hb1⟩
  have I1:Bk w1 (w.heap.size+1) 60 #[.int .i64 xs,.int .i64 xp,.bool xz]:=Bk.later (by(repeat first|(with_reducible first|assumption|exact kN _ _ _ (by simp)|refine kA ?_ _|refine kD ?_|refine kW ?_ _|apply Bk.set'|refine kF ?_ (by simp<;>omega) _|refine kL ?_ ‹_›|refine kG ?_ ‹_› (by first|omega|simp<;>omega))|exact⟨by with_reducible rfl⟩|exact⟨by simp⟩)) hb1
  have d1:Below w.heap.size w w1:=by(with_reducible repeat first|assumption|exact bl0 _ _|refine blA ?_ _|(refine blS ?_ ?_ _;(simp<;>omega))|refine blD ?_|refine blN ?_ _|refine blF ?_ ‹_›)
  clear hb1
  obtain⟨⟨y0,y1,y2⟩,yf⟩:=I1.c3
  go_wp2_with fail
  refine(Qap ⟨xs,xp,xz⟩ _).mono ?_
  rw[hok]
  rintro e w2 ⟨rfl,hb2⟩
  go_wp2
  go_ret
  exact⟨Qs hR.out.symm,by(with_reducible repeat first|assumption|exact bl0 _ _|refine blA ?_ _|(refine blS ?_ ?_ _;(simp<;>omega))|refine blD ?_|refine blN ?_ _|refine blF ?_ ‹_›)⟩
 ·obtain⟨k1,k2⟩:=QbC hok
  cases hp:(xp == 2)
  all_goals cases xz
  all_goals cases hB1:banB l 1
  all_goals cases hB2:banB l 2
  all_goals
   have HP:=Lib.hid hp
   have HB1:=Lib.hid hB1
   have HB2:=Lib.hid hB2
   have HO:=Lib.hid hok
   go_enter Sq.func43, Tryz.ntmps43
   go_wp2_with fail
   refine(QiO l A A' c c' _ h0 h1).mono ?_
   rintro e w1 ⟨b,D,rfl,hM,hB,hP,hb1⟩
   rw[hB1] at hB
   rw[hB2] at hP
   have I1:Bk w1 (w.heap.size+1) 60 #[.int .i64 xs,.int .i64 xp,.bool _]:=Bk.later (by(repeat first|(with_reducible first|assumption|exact kN _ _ _ (by simp)|refine kA ?_ _|refine kD ?_|refine kW ?_ _|apply Bk.set'|refine kF ?_ (by simp<;>omega) _|refine kL ?_ ‹_›|refine kG ?_ ‹_› (by first|omega|simp<;>omega))|exact⟨by with_reducible rfl⟩|exact⟨by simp⟩)) hb1
   have d1:Below w.heap.size w w1:=by(with_reducible repeat first|assumption|exact bl0 _ _|refine blA ?_ _|(refine blS ?_ ?_ _;(simp<;>omega))|refine blD ?_|refine blN ?_ _|refine blF ?_ ‹_›)
   clear hb1
   obtain⟨⟨y0,y1,y2⟩,yf⟩:=I1.c3
   go_wp2_with fail
   refine(Qap ⟨xs,xp,_⟩ _).mono ?_
   rw[hok]
   rintro e w2 ⟨rfl,hb2⟩
   have I2:=I1.later hb2
   have hlB:=Qjz (Qau hM hb2) Qcg hB
   have hlP:=Qjz (Qau hM hb2) Qc6 hP
   have d2:Below w.heap.size w w2:=by(with_reducible repeat first|assumption|exact bl0 _ _|refine blA ?_ _|(refine blS ?_ ?_ _;(simp<;>omega))|refine blD ?_|refine blN ?_ _|refine blF ?_ ‹_›)
   clear hb2 y0 y1 y2 yf I1 hM hB hP d1
   obtain⟨⟨j0,j1,j2⟩,jf⟩:=I2.c3
   go_wp2_with (go_at_call 36;refine(QZ _ _ _ _).mono ?_;rintro e w4 ⟨rfl,rfl⟩)
   go_ret
   refine⟨Qs (by unfold folB;simp only[HP.out,HB1.out,HB2.out,HO.out];rfl),?_⟩;(with_reducible repeat first|assumption|exact bl0 _ _|refine blA ?_ _|(refine blS ?_ ?_ _;(simp<;>omega))|refine blD ?_|refine blN ?_ _|refine blF ?_ ‹_›)
end Go.Proofs.YtgaimkihacljdaaGreat
/- The program's InputsLegal. (Round B) -/
namespace Go.Proofs.YtgaimkihacljdaaGreat
open Go.ChangeShapes Go.WideShapes Go.ChangeAt Go.RowKit Go.Maps
set_option maxRecDepth 100000 in
set_option maxHeartbeats 4000000 in
theorem JQ(l:Lev)(ins:List Inp)(A A' A2:Option Addr)(c c' c2:Nat)(w:World)(h:Sl w 4 Qc A l.walls.length l.walls)(hg:Sl w 4 Qc A' l.gates.length l.gates)(e:A=none→c=0)(e':A'=none→c'=0)(hn1:(l.walls.length:Nat)≤9223372036854775807)(hn2:(l.gates.length:Nat)≤9223372036854775807)(hl:QE l=true)
 (hs:Sl w 3 Qd A2 ins.length ins)(hn:(ins.length:Nat)≤9223372036854775807):
 Calls Sq.prog 24 #[.agg #[.int .i64 l.id,.int .i64 l.ticks,.int .i64 l.start.x,.int .i64 l.start.y,.slice A l.walls.length c,.slice A' l.gates.length c',.int .i64 l.fin.lo.x,.int .i64 l.fin.lo.y,.int .i64 l.fin.hi.x,.int .i64 l.fin.hi.y,.int .i64 l.bans],.slice A2 ins.length c2] w fun e w'=>e= .returned (.int .i64 (QC l ins))∧Below w.heap.size w w':=by
 have hbn:0≤l.bans∧l.bans≤3:=by simp only[QE,Bool.and_eq_true] at hl;exact Q5.1 hl.2.2.2.2.2.2.2.2.1
 obtain⟨h0,h1⟩:=hbn
 go_enter Sq.func24, Tryz.ntmps24
 go_wp2_with fail
 refine(Zi l A A' c c' _ (h.below (by(with_reducible repeat first|assumption|exact bl0 _ _|refine blA ?_ _|(refine blS ?_ ?_ _;(simp<;>omega))|refine blD ?_|refine blN ?_ _|refine blF ?_ ‹_›))) (hg.below (by(with_reducible repeat first|assumption|exact bl0 _ _|refine blA ?_ _|(refine blS ?_ ?_ _;(simp<;>omega))|refine blD ?_|refine blN ?_ _|refine blF ?_ ‹_›))) e e' hn1 hn2).mono ?_
 rw[hl]
 rintro e w1 ⟨rfl,hb1⟩
 have L1:Bk w1 w.heap.size 42 #[.int .i64 l.id,.int .i64 l.ticks,.int .i64 l.start.x,.int .i64 l.start.y,.slice A l.walls.length c,.slice A' l.gates.length c',.int .i64 l.fin.lo.x,.int .i64 l.fin.lo.y,.int .i64 l.fin.hi.x,.int .i64 l.fin.hi.y,.int .i64 l.bans]:=Bk.later (by(repeat first|(with_reducible first|assumption|exact kN _ _ _ (by simp)|refine kA ?_ _|refine kD ?_|refine kW ?_ _|apply Bk.set'|refine kF ?_ (by simp<;>omega) _|refine kL ?_ ‹_›|refine kG ?_ ‹_› (by first|omega|simp<;>omega))|exact⟨by with_reducible rfl⟩|exact⟨by simp⟩)) hb1
 have B1:Below w.heap.size w w1:=by(with_reducible repeat first|assumption|exact bl0 _ _|refine blA ?_ _|(refine blS ?_ ?_ _;(simp<;>omega))|refine blD ?_|refine blN ?_ _|refine blF ?_ ‹_›)
 clear hb1
 go_wp2
 go_loopw [5,6,14] (fun p s i wr=>∃k:Nat,k≤ins.length∧i= .int .i64 k∧p= .int .i64 (J8 (ins.take k))∧s= .int .i64 (Jq (ins.take k))∧(∀j,j<k→Zm l ins j=false)∧Bk wr w.heap.size 42 #[.int .i64 l.id,.int .i64 l.ticks,.int .i64 l.start.x,.int .i64 l.start.y,.slice A l.walls.length c,.slice A' l.gates.length c',.int .i64 l.fin.lo.x,.int .i64 l.fin.lo.y,.int .i64 l.fin.hi.x,.int .i64 l.fin.hi.y,.int .i64 l.bans]∧Below w.heap.size w wr) (fun _ _ i _=>ins.length - (intOf i).toNat)
 case atStart=>exact⟨0,Nat.zero_le _,rfl,rfl,rfl,fun j hj=>by omega,L1,B1⟩
 case round=>
  obtain⟨k,hk,rfl,rfl,rfl,hgood,hL,hb⟩:=hrel
  by_cases hlt:k<ins.length
  ·obtain⟨b,off,x,rfl,hbl,hx,hc⟩:=(hs.below hb).at_ hlt
   have q0:wr.cell? ⟨b,off+k*3,none⟩=some (.int .i64 x.s):=hc 0 _ rfl
   have q1:wr.cell? ⟨b,off+k*3+1,none⟩=some (.int .i64 x.p):=hc 1 _ rfl
   have q2:wr.cell? ⟨b,off+k*3+2,none⟩=some (.bool x.z):=hc 2 _ rfl
   have HP:=Lib.hid (Qj8 hx)
   have HSt:=Lib.hid (Qg5 hx)
   have HBad:=Lib.hid (Qdq (l:=l) hx)
   obtain⟨hst0,hst1⟩:=Qg6 hgood hk
   obtain⟨hp0,hp1⟩:=Qj7 ins k
   have HG:=Lib.hid hgood
   clear hgood hx hc L1
   generalize hPn:J8 (ins.take k)=P at*
   generalize hSn:Jq (ins.take k)=S at*
   clear hPn hSn
   have zL:=hL.lt
   obtain⟨⟨l0,l1,l2,l3,l4,l5,l6,l7,l8,l9,l10⟩,lf⟩:=hL.c11
   obtain⟨xs,xp,xz⟩:=x
   simp only at q0 q1 q2 HP HSt
   obtain⟨P',hP',hP'e⟩: ∃P':Int,P'=P+(if xz then 1 else 0)∧(0≤P'∧P'≤k+1):=⟨_,rfl,by split<;>omega⟩
   by_cases hA:l.ticks≤(k:Int)
   ·have hAb:decide (l.ticks≤(k:Int))=true:=by simpa using hA
    have hbad:Hid (Zm l ins k=true):=Lib.hid (by rw[HBad.out,hAb];rfl)
    cases xz
    all_goals
     go_wp2
     go_ret
     exact⟨QU (QaM hlt HG.out hbad.out).symm,by(with_reducible repeat first|assumption|exact bl0 _ _|refine blA ?_ _|(refine blS ?_ ?_ _;(simp<;>omega))|refine blD ?_|refine blN ?_ _|refine blF ?_ ‹_›)⟩
   ·have hAb:decide (l.ticks≤(k:Int))=false:=by simpa using hA
    have hA':(k:Int)<l.ticks:=by omega
    clear hA
    by_cases hB3:3<P'
    ·have hbad:Hid (Zm l ins k=true):=Lib.hid (by rw[HBad.out,HP.out,hAb,←hP',show decide (3<P')=true by simpa using hB3];rfl)
     cases xz
     ·have hP2:P'=P:=by rw[hP'];simp
      have hB4:3<P:=by omega
      clear hP' hP2 hP'e hB3
      go_wp2
      go_ret
      exact⟨QU (QaM hlt HG.out hbad.out).symm,by(with_reducible repeat first|assumption|exact bl0 _ _|refine blA ?_ _|(refine blS ?_ ?_ _;(simp<;>omega))|refine blD ?_|refine blN ?_ _|refine blF ?_ ‹_›)⟩
     ·have hP2:P'=P+1:=by rw[hP'];simp
      have hB4:3<P+1:=by omega
      clear hP' hP2 hP'e hB3
      go_wp2
      go_ret
      exact⟨QU (QaM hlt HG.out hbad.out).symm,by(with_reducible repeat first|assumption|exact bl0 _ _|refine blA ?_ _|(refine blS ?_ ?_ _;(simp<;>omega))|refine blD ?_|refine blN ?_ _|refine blF ?_ ‹_›)⟩
    ·cases xz
     all_goals
      have HF:Hid (Zm l ins k= !folB l S ⟨xs,xp,_⟩):=Lib.hid (by rw[HBad.out,HP.out,hAb,←hP',show decide (3<P')=false by simpa using hB3];rfl)
     ·have hP2:P'=P:=by rw[hP'];simp
      have hB4:P≤3:=by omega
      clear hP' hP2 hP'e hB3
      go_wp2_with fail
      refine(QiN l S ⟨xs,xp,false⟩ _ _ _ _ _ h0 h1 hst0 hst1).mono ?_
      rintro e w2 ⟨rfl,hb2⟩
      have X2:Bk w2 wr.heap.size 60 #[.int .i64 xs,.int .i64 xp,.bool false]:=Bk.later (by(repeat first|(with_reducible first|assumption|exact kN _ _ _ (by simp)|refine kA ?_ _|refine kD ?_|refine kW ?_ _|apply Bk.set'|refine kF ?_ (by simp<;>omega) _|refine kL ?_ ‹_›|refine kG ?_ ‹_› (by first|omega|simp<;>omega))|exact⟨by with_reducible rfl⟩|exact⟨by simp⟩)) hb2
      have L2:Bk w2 w.heap.size 42 #[.int .i64 l.id,.int .i64 l.ticks,.int .i64 l.start.x,.int .i64 l.start.y,.slice A l.walls.length c,.slice A' l.gates.length c',.int .i64 l.fin.lo.x,.int .i64 l.fin.lo.y,.int .i64 l.fin.hi.x,.int .i64 l.fin.hi.y,.int .i64 l.bans]:=Bk.later (by(repeat first|(with_reducible first|assumption|exact kN _ _ _ (by simp)|refine kA ?_ _|refine kD ?_|refine kW ?_ _|apply Bk.set'|refine kF ?_ (by simp<;>omega) _|refine kL ?_ ‹_›|refine kG ?_ ‹_› (by first|omega|simp<;>omega))|exact⟨by with_reducible rfl⟩|exact⟨by simp⟩)) hb2
      have B2:Below w.heap.size w w2:=by(with_reducible repeat first|assumption|exact bl0 _ _|refine blA ?_ _|(refine blS ?_ ?_ _;(simp<;>omega))|refine blD ?_|refine blN ?_ _|refine blF ?_ ‹_›)
      clear hb2 l0 l1 l2 l3 l4 l5 l6 l7 l8 l9 l10 lf q0 q1 q2 hL hb
      obtain⟨⟨x0,x1,x2⟩,xf⟩:=X2.c3
      cases hFo:folB l S ⟨xs,xp,false⟩
      ·have hbad:Hid (Zm l ins k=true):=Lib.hid (by rw[HF.out,hFo];rfl)
       go_wp2
       go_ret
       exact⟨QU (QaM hlt HG.out hbad.out).symm,by(with_reducible repeat first|assumption|exact bl0 _ _|refine blA ?_ _|(refine blS ?_ ?_ _;(simp<;>omega))|refine blD ?_|refine blN ?_ _|refine blF ?_ ‹_›)⟩
      ·have hbad:Hid (Zm l ins k=false):=Lib.hid (by rw[HF.out,hFo];rfl)
       go_wp2
       go_roundw
       case rel=>exact⟨k+1,by omega,by go_num,by rw[HP.out];simp,by rw[HSt.out],Qbs HG.out hbad.out,L2,B2⟩
       case measure=>simp[intOf];omega
     ·have hP2:P'=P+1:=by rw[hP'];simp
      have hB4:P+1≤3:=by omega
      clear hP' hP2 hP'e hB3
      go_wp2_with fail
      refine(QiN l S ⟨xs,xp,true⟩ _ _ _ _ _ h0 h1 hst0 hst1).mono ?_
      rintro e w2 ⟨rfl,hb2⟩
      have X2:Bk w2 wr.heap.size 60 #[.int .i64 xs,.int .i64 xp,.bool true]:=Bk.later (by(repeat first|(with_reducible first|assumption|exact kN _ _ _ (by simp)|refine kA ?_ _|refine kD ?_|refine kW ?_ _|apply Bk.set'|refine kF ?_ (by simp<;>omega) _|refine kL ?_ ‹_›|refine kG ?_ ‹_› (by first|omega|simp<;>omega))|exact⟨by with_reducible rfl⟩|exact⟨by simp⟩)) hb2
      have L2:Bk w2 w.heap.size 42 #[.int .i64 l.id,.int .i64 l.ticks,.int .i64 l.start.x,.int .i64 l.start.y,.slice A l.walls.length c,.slice A' l.gates.length c',.int .i64 l.fin.lo.x,.int .i64 l.fin.lo.y,.int .i64 l.fin.hi.x,.int .i64 l.fin.hi.y,.int .i64 l.bans]:=Bk.later (by(repeat first|(with_reducible first|assumption|exact kN _ _ _ (by simp)|refine kA ?_ _|refine kD ?_|refine kW ?_ _|apply Bk.set'|refine kF ?_ (by simp<;>omega) _|refine kL ?_ ‹_›|refine kG ?_ ‹_› (by first|omega|simp<;>omega))|exact⟨by with_reducible rfl⟩|exact⟨by simp⟩)) hb2
      have B2:Below w.heap.size w w2:=by(with_reducible repeat first|assumption|exact bl0 _ _|refine blA ?_ _|(refine blS ?_ ?_ _;(simp<;>omega))|refine blD ?_|refine blN ?_ _|refine blF ?_ ‹_›)
      clear hb2 l0 l1 l2 l3 l4 l5 l6 l7 l8 l9 l10 lf q0 q1 q2 hL hb
      obtain⟨⟨x0,x1,x2⟩,xf⟩:=X2.c3
      cases hFo:folB l S ⟨xs,xp,true⟩
      ·have hbad:Hid (Zm l ins k=true):=Lib.hid (by rw[HF.out,hFo];rfl)
       go_wp2
       go_ret
       exact⟨QU (QaM hlt HG.out hbad.out).symm,by(with_reducible repeat first|assumption|exact bl0 _ _|refine blA ?_ _|(refine blS ?_ ?_ _;(simp<;>omega))|refine blD ?_|refine blN ?_ _|refine blF ?_ ‹_›)⟩
      ·have hbad:Hid (Zm l ins k=false):=Lib.hid (by rw[HF.out,hFo];rfl)
       go_wp2
       go_roundw
       case rel=>exact⟨k+1,by omega,by go_num,by rw[HP.out];simp,by rw[HSt.out],Qbs HG.out hbad.out,L2,B2⟩
       case measure=>simp[intOf];omega
  ·have hke:k=ins.length:=by omega
   have HG:=Lib.hid hgood
   clear hgood hs
   go_wp2
   go_ret
   exact⟨QU (Qgp (by rw[←hke];exact HG.out)).symm,hb⟩
end Go.Proofs.YtgaimkihacljdaaGreat
/- A channel with a buffer in one goroutine, for the kit's walk: a send with room, a receive of what lies there, a receive from a closed and empty one. No program is named here. -/
namespace Go.Proofs.YtgaimkihacljdaaGreat
open Go.RowKit Go.Conc
def Ar(P:Program)(ops:Array Oper)(Q:Exit→Act→World→Prop)(l:List Nat)(a:Act)(w:World):Prop:=
 ∀(b:Frame) (k:List Item) (cs:List Frame),∃e a' w',Q e a' w'∧Arrives P (lone (b.at a (.inRegion ops l :: k)) cs w) b k cs e a' w'
section
variable {P : Program} {ops : Array Oper} {Q : Exit → Act → World → Prop} {a : Act} {w : World}
theorem Qd5{id:Nat}(h:Ar P ops Q (List.range ops.size) a w):(Code.region id ops false).wp P Q a w:=fun b k cs=>
 let⟨e,a',w',hq,harr⟩:=h b k cs;⟨e,a',w',hq,.of_steps (.one step_region) harr⟩
theorem Ar.wp{l:List Nat}(h:wpOps P ops Q l a w):Ar P ops Q l a w:=wp_ops l a w h
theorem Ar.nil(h:Q .normal a w):Ar P ops Q [] a w:=fun _ _ _=>⟨.normal,a,w,h,.one step_region_end⟩
theorem Ar.value{i:Nat}{rest:List Nat}{o:Oper}{v:Value}{w':World}(ho:ops[i]? =some o)(hw:Region.wanted o (yielded ops a.tmps)=true)
 (hr:(execOp a.eval o).run P w= .ok (.value v) w')(h:Ar P ops Q rest (a.put o.dst v) w'):Ar P ops Q (i :: rest) a w:=by
 intro b k cs
 obtain⟨e,a',w'',hq,harr⟩:=h b k cs
 have hg:=stepG_op (P:=P) (b:=b) (k:=k) (cs:=cs) (w:=w) (rest:=rest) ho hw
 refine⟨e,a',w'',hq,.of_steps (.one (step_lone_go ?_)) harr⟩
 have hfin:(b.at a (.inRegion ops (i :: rest) :: k)).finish v=b.at (a.put o.dst v) (.inRegion ops rest :: k):=by rw[Frame.finish_at,ho];rfl
 rw[hg,←hfin];simp[stepG.apply,hr]
theorem Ar.skip{i:Nat}{rest:List Nat}{o:Oper}{w':World}(ho:ops[i]? =some o)(hw:Region.wanted o (yielded ops a.tmps)=true)
 (hr:(execOp a.eval o).run P w= .ok .skip w')(h:Ar P ops Q rest (a.put o.dst undef) w'):Ar P ops Q (i :: rest) a w:=by
 intro b k cs
 obtain⟨e,a',w'',hq,harr⟩:=h b k cs
 have hg:=stepG_op (P:=P) (b:=b) (k:=k) (cs:=cs) (w:=w) (rest:=rest) ho hw
 refine⟨e,a',w'',hq,.of_steps (.one (step_lone_go ?_)) harr⟩
 have hfin:(b.at a (.inRegion ops (i :: rest) :: k)).finish undef=b.at (a.put o.dst undef) (.inRegion ops rest :: k):=by rw[Frame.finish_at,ho];rfl
 rw[hg,←hfin];simp[stepG.apply,hr]
theorem Qg7{b:Frame}{k:List Item}{cs:List Frame}{i:Nat}{rest:List Nat}{o:Oper}{cases:Array CommCase}{bl:Bool}{sh:CommShape}(ho:ops[i]? =some o)(hw:Region.wanted o (yielded ops a.tmps)=true)
 (hr:(execOp a.eval o).run P w= .ok (.comm cases bl sh) w): ∃es,stepG P true (G (b.at a (.inRegion ops (i :: rest) :: k)) cs) w= .comm (G (b.at a (.inRegion ops (i :: rest) :: k)) cs) cases bl sh w es:=by
 have hg:=stepG_op (P:=P) (b:=b) (k:=k) (cs:=cs) (w:=w) (rest:=rest) ho hw
 simp only[stepG.apply,Sem.runT_eq,hr] at hg
 exact⟨_,hg⟩
theorem Ar.send{i:Nat}{rest:List Nat}{o:Oper}{c cap s r:Nat}{buf:Array Value}{v z:Value}{tm:Bool}(ho:ops[i]? =some o)(hw:Region.wanted o (yielded ops a.tmps)=true)
 (hr:(execOp a.eval o).run P w= .ok (.comm #[scase c v z] true .send) w)(hc:w.heap[c]? =some (.chan cap buf false s r tm))(hroom:buf.size<cap)
 (h:Ar P ops Q rest (a.put o.dst undef) (w.setChan c cap (buf.push v) false (s+1) r tm)):Ar P ops Q (i :: rest) a w:=by
 intro b k cs
 obtain⟨e,a',w'',hq,harr⟩:=h b k cs
 obtain⟨es,hs⟩:=Qg7 (b:=b) (k:=k) (cs:=cs) (rest:=rest) ho hw hr
 refine⟨e,a',w'',hq,.of_steps (.one ?_) harr⟩
 have hfin:(b.at a (.inRegion ops (i :: rest) :: k)).finish undef=b.at (a.put o.dst undef) (.inRegion ops rest :: k):=by rw[Frame.finish_at,ho];rfl
 rw[←hfin]
 exact step_lone_send_room hs hc hroom
theorem Ar.recv{i:Nat}{rest:List Nat}{o:Oper}{c cap s r:Nat}{buf:Array Value}{z:Value}{tm closed ok:Bool}(ho:ops[i]? =some o)(hw:Region.wanted o (yielded ops a.tmps)=true)
 (hr:(execOp a.eval o).run P w= .ok (.comm #[rcase c z] true (.recv ok)) w)(hc:w.heap[c]? =some (.chan cap buf closed s r tm))(hsome:0<buf.size)
 (h:Ar P ops Q rest (a.put o.dst (got ok (buf.getD 0 undef) true)) (w.setChan c cap (buf.extract 1 buf.size) closed s (r+1) tm)):Ar P ops Q (i :: rest) a w:=by
 intro b k cs
 obtain⟨e,a',w'',hq,harr⟩:=h b k cs
 obtain⟨es,hs⟩:=Qg7 (b:=b) (k:=k) (cs:=cs) (rest:=rest) ho hw hr
 refine⟨e,a',w'',hq,.of_steps (.one ?_) harr⟩
 have hfin:(b.at a (.inRegion ops (i :: rest) :: k)).finish (got ok (buf.getD 0 undef) true)=b.at (a.put o.dst (got ok (buf.getD 0 undef) true)) (.inRegion ops rest :: k):=by rw[Frame.finish_at,ho];rfl
 rw[←hfin]
 exact step_lone_recv_buf ok hs hc hsome
theorem Ar.shut{i:Nat}{rest:List Nat}{o:Oper}{c cap s r:Nat}{z:Value}{tm ok:Bool}(ho:ops[i]? =some o)(hw:Region.wanted o (yielded ops a.tmps)=true)
 (hr:(execOp a.eval o).run P w= .ok (.comm #[rcase c z] true (.recv ok)) w)(hc:w.heap[c]? =some (.chan cap #[] true s r tm))
 (h:Ar P ops Q rest (a.put o.dst (got ok z false)) w):Ar P ops Q (i :: rest) a w:=by
 intro b k cs
 obtain⟨e,a',w'',hq,harr⟩:=h b k cs
 obtain⟨es,hs⟩:=Qg7 (b:=b) (k:=k) (cs:=cs) (rest:=rest) ho hw hr
 refine⟨e,a',w'',hq,.of_steps (.one ?_) harr⟩
 have hfin:(b.at a (.inRegion ops (i :: rest) :: k)).finish (got ok z false)=b.at (a.put o.dst (got ok z false)) (.inRegion ops rest :: k):=by rw[Frame.finish_at,ho];rfl
 rw[←hfin]
 exact step_lone_recv_shut ok hs hc
end
end Go.Proofs.YtgaimkihacljdaaGreat
/- A tick of the program, whatever the input; the states of a run go through a channel. (Round B) -/
namespace Go.Proofs.YtgaimkihacljdaaGreat
open Go.ChangeShapes Go.WideShapes Go.ChangeAt Go.RowKit Go.Conc
set_option maxRecDepth 100000 in
theorem Qed(l:Lev)(s:St)(x:Inp)(A A':Option Addr)(c c':Nat)(w:World)(h:Sl w 4 Qc A l.walls.length l.walls)(h':Sl w 4 Qc A' l.gates.length l.gates)(hn:(l.walls.length:Nat)≤9223372036854775807)
 (hl:QE l=true)(hs:sOk l s)(hx0: -1≤x.s)(hx1:x.s≤1)(ht0:0≤s.t)(ht1:s.t≤1000):
 Calls Sq.prog 70 #[.agg #[.int .i64 l.id,.int .i64 l.ticks,.int .i64 l.start.x,.int .i64 l.start.y,.slice A l.walls.length c,.slice A' l.gates.length c',.int .i64 l.fin.lo.x,.int .i64 l.fin.lo.y,.int .i64 l.fin.hi.x,.int .i64 l.fin.hi.y,.int .i64 l.bans],.agg #[.int .i64 s.t,.int .i64 s.p.x,.int .i64 s.p.y,.int .i64 s.f.x,.int .i64 s.f.y,.int .i64 s.d,.int .i64 s.g,.bool s.dn,.bool s.ov],.agg #[.int .i64 x.s,.int .i64 x.p,.bool x.z]] w fun e w'=>e= .returned (.agg #[.int .i64 (Qr l s x).t,.int .i64 (Qr l s x).p.x,.int .i64 (Qr l s x).p.y,.int .i64 (Qr l s x).f.x,.int .i64 (Qr l s x).f.y,.int .i64 (Qr l s x).d,.int .i64 (Qr l s x).g,.bool (Qr l s x).dn,.bool (Qr l s x).ov])∧Below w.heap.size w w':=by
 have hgl:l.gates.length≤3:=by simp only[QE,Bool.and_eq_true,decide_eq_true_eq] at hl;exact hl.2.2.2.2.2.1
 rcases Bool.eq_false_or_eq_true (s.dn || s.ov) with hd|hd
 ·exact QmF l s x A A' c c' w hd
 ·simp only[Bool.or_eq_false_iff] at hd
  rcases Bool.eq_false_or_eq_true x.z with hz|hz
  ·exact QmE l s x A A' c c' w hd.1 hd.2 hz ⟨ht0,ht1⟩
  ·exact QmC l s x A A' c c' w h h' hn hl hs.p hs.f hs.d0 hs.d1 hx0 hx1 hs.g0 (by have:=hs.g1;omega) ht0 ht1 hd.1 hd.2 hz
def QbV(s:St):List Value:=[.int .i64 s.t,.int .i64 s.p.x,.int .i64 s.p.y,.int .i64 s.f.x,.int .i64 s.f.y,.int .i64 s.d,.int .i64 s.g,.bool s.dn,.bool s.ov]
theorem Qek(s:St):(QbV s).length=9:=rfl
theorem Qtg(s:St): ∀u∈QbV s,u.oneCell'=true:=by
 intro u hu
 simp only[QbV,List.mem_cons,List.not_mem_nil,or_false] at hu
 rcases hu with rfl|rfl|rfl|rfl|rfl|rfl|rfl|rfl|rfl<;>rfl
def ZI(s:St):Value:= .agg #[.int .i64 s.t,.int .i64 s.p.x,.int .i64 s.p.y,.int .i64 s.f.x,.int .i64 s.f.y,.int .i64 s.d,.int .i64 s.g,.bool s.dn,.bool s.ov]
def ZD(l:Lev)(ins:List Inp)(k:Nat):List St:=(List.range k).map (Qg l ins)
theorem Qln(l:Lev)(ins:List Inp)(k:Nat):ZD l ins (k+1)=ZD l ins k++ [Qg l ins k]:=by
 unfold ZD;rw[List.range_succ,List.map_append];rfl
theorem Qdm(l:Lev)(ins:List Inp)(k:Nat):(ZD l ins k).length=k:=by simp[ZD]
theorem QmD(l:Lev)(s s':St)(x:Inp)(A A':Option Addr)(c c':Nat)(w:World)(h:Sl w 4 Qc A l.walls.length l.walls)(h':Sl w 4 Qc A' l.gates.length l.gates)(hn:(l.walls.length:Nat)≤9223372036854775807)
 (hl:QE l=true)(hs:sOk l s)(hx0: -1≤x.s)(hx1:x.s≤1)(ht0:0≤s.t)(ht1:s.t≤1000)(e:Qr l s x=s'):
 Calls Sq.prog 70 #[.agg #[.int .i64 l.id,.int .i64 l.ticks,.int .i64 l.start.x,.int .i64 l.start.y,.slice A l.walls.length c,.slice A' l.gates.length c',.int .i64 l.fin.lo.x,.int .i64 l.fin.lo.y,.int .i64 l.fin.hi.x,.int .i64 l.fin.hi.y,.int .i64 l.bans],.agg #[.int .i64 s.t,.int .i64 s.p.x,.int .i64 s.p.y,.int .i64 s.f.x,.int .i64 s.f.y,.int .i64 s.d,.int .i64 s.g,.bool s.dn,.bool s.ov],.agg #[.int .i64 x.s,.int .i64 x.p,.bool x.z]] w fun e w'=>e= .returned (.agg #[.int .i64 s'.t,.int .i64 s'.p.x,.int .i64 s'.p.y,.int .i64 s'.f.x,.int .i64 s'.f.y,.int .i64 s'.d,.int .i64 s'.g,.bool s'.dn,.bool s'.ov])∧Below w.heap.size w w':=e ▸ Qed l s x A A' c c' w h h' hn hl hs hx0 hx1 ht0 ht1
theorem Qm1(l:Lev)(ins:List Inp)(k:Nat):((ZD l ins (k+1)).map ZI).toArray.push (ZI (Qg l ins (k+1)))=((ZD l ins (k+1+1)).map ZI).toArray:=by
 rw[Qln l ins (k+1),List.map_append]
 simp
theorem Qm0(l:Lev)(ins:List Inp)(k:Nat):((ZD l ins k).map ZI).toArray.size=k:=by simp[Qdm]
def Ob(w:World)(g:Nat)(o:Obj):Prop:=w.heap[g]? =some o
theorem Ob.lt{w:World}{g:Nat}{o:Obj}(h:Ob w g o):g<w.heap.size:=(Array.getElem?_eq_some_iff.1 h).1
theorem Ob.alloc{w:World}{g:Nat}{o:Obj}(h:Ob w g o)(o':Obj):Ob (w.alloc o') g o:=(Below.heap_alloc w o' g h.lt).trans h
theorem Ob.later{w w':World}{g:Nat}{o:Obj}(h:Ob w g o)(hb:Below w.heap.size w w'):Ob w' g o:=(hb.block g h.lt).trans h
theorem Ob.far{w:World}{g:Nat}{o:Obj}(h:Ob w g o){p:Addr}(hp:g≠p.block)(v:Value):Ob (w.setCell p v) g o:=(Below.heap_setCell w p v g hp).trans h
theorem Ob.grown{w w':World}{g:Nat}{o:Obj}{row:Option Nat}(h:Ob w g o)(hg:w.grownBy w' row)(hne:some g≠row):Ob w' g o:=(hg.block g h.lt hne).trans h
theorem Ob.chan{w:World}{g:Nat}{o:Obj}(h:Ob w g o)(cap:Nat)(buf:Array Value)(cl:Bool)(s r:Nat)(tm:Bool):Ob (w.setChan g cap buf cl s r tm) g (.chan cap buf cl s r tm):=heap_setChan _ _ _ _ _ _ _ _ h.lt
theorem QiG{w:World}{g c:Nat}(h:g≠c)(cap:Nat)(buf:Array Value)(cl:Bool)(s r:Nat)(tm:Bool):(w.setChan c cap buf cl s r tm).heap[g]? =w.heap[g]? :=by
 simp only[World.setChan]
 rw[Array.getElem?_setIfInBounds_ne (by omega)]
theorem Bk.chan{w:World}{g c:Nat}{t:TypeId}{cs:Array Value}(h:Bk w g t cs)(hne:g≠c)(cap:Nat)(buf:Array Value)(cl:Bool)(s r:Nat)(tm:Bool):Bk (w.setChan c cap buf cl s r tm) g t cs:=(QiG hne ..).trans h
def Qli:Value→Nat
 | .slice _ n _=>n
 |_=>0
def Jo(l:Lev)(ins:List Inp)(k:Nat):Array Value:=(((ZD l ins (ins.length+1)).drop k).map ZI).toArray
theorem Qkl(l:Lev)(ins:List Inp)(k:Nat):(Jo l ins k).size=ins.length+1 - k:=by simp[Jo,Qdm]
theorem Qfa(l:Lev)(ins:List Inp){k n:Nat}(hk:k<n):(ZD l ins n)[k]? =some (Qg l ins k):=by
 unfold ZD
 rw[List.getElem?_map,List.getElem?_range hk]
 rfl
theorem Qkk(l:Lev)(ins:List Inp){k:Nat}(hk:k<ins.length+1):Jo l ins k=(ZI (Qg l ins k) :: (((ZD l ins (ins.length+1)).drop (k+1)).map ZI)).toArray:=by
 unfold Jo
 have hl:k<(ZD l ins (ins.length+1)).length:=by rw[Qdm];exact hk
 have hg:=Qfa l ins hk
 rw[List.getElem?_eq_getElem hl] at hg
 injection hg with hg
 rw[List.drop_eq_getElem_cons hl,List.map_cons,hg]
theorem QtM(l:Lev)(ins:List Inp){k:Nat}(hk:k<ins.length+1):(Jo l ins k).getD 0 undef=ZI (Qg l ins k):=by rw[Qkk l ins hk];rfl
theorem QtN(l:Lev)(ins:List Inp){k:Nat}(hk:k<ins.length+1):(Jo l ins k).extract 1 (Jo l ins k).size=Jo l ins (k+1):=by
 have e:Jo l ins (k+1)=(((ZD l ins (ins.length+1)).drop (k+1)).map ZI).toArray:=rfl
 rw[e,Qkk l ins hk]
 simp
 rw[List.take_of_length_le (by simp)]
theorem Own.chan{α:Type}{w:World}{B:Nat}{T:TypeId}{sz:Nat}{enc:α→List Value}{v:Value}{l:List α}{c:Nat}{cap0 s0 r0:Nat}{buf0:Array Value}{cl0 tm0:Bool}(h:Own w B T sz enc v l)(hc:Ob w c (.chan cap0 buf0 cl0 s0 r0 tm0))(cap:Nat)(buf:Array Value)(cl:Bool)(s r:Nat)(tm:Bool):Own (w.setChan c cap buf cl s r tm) B T sz enc v l:=by
 refine⟨h.1,?_⟩
 rcases h.2 with hn|⟨g,cp,cur,rfl,hB,hgg,rest⟩
 ·exact .inl hn
 ·refine .inr ⟨g,cp,cur,rfl,hB,(QiG ?_ ..).trans hgg,rest⟩
  intro e
  subst e
  unfold Ob at hc
  rw[hgg] at hc
  cases hc
theorem Sl.oneAt{α:Type}{enc:α→List Value}{sz:Nat}(w:World)(x:α)(T:TypeId)(cs:Array Value)(hcs:cs.toList=enc x){g:Nat}(hg:w.heap.size=g):Sl (w.alloc (.cells cs T)) sz enc (some ⟨g,0,none⟩) 1 [x]:=hg ▸ Sl.one w x T cs hcs
structure RunW(l:Lev)(A:Option Addr)(c:Nat)(A':Option Addr)(c':Nat)(cb sb n k:Nat)(buf:Array Value)(v:St)(w W:World):Prop where
 L:Bk W w.heap.size 42 #[.int .i64 l.id,.int .i64 l.ticks,.int .i64 l.start.x,.int .i64 l.start.y,.slice A l.walls.length c,.slice A' l.gates.length c',.int .i64 l.fin.lo.x,.int .i64 l.fin.lo.y,.int .i64 l.fin.hi.x,.int .i64 l.fin.hi.y,.int .i64 l.bans]
 C:Ob W cb (.chan (n+1) buf false k 0 false)
 S:Bk W sb 72 #[.int .i64 v.t,.int .i64 v.p.x,.int .i64 v.p.y,.int .i64 v.f.x,.int .i64 v.f.y,.int .i64 v.d,.int .i64 v.g,.bool v.dn,.bool v.ov]
 B:Below w.heap.size w W
set_option maxRecDepth 100000 in
set_option maxHeartbeats 4000000 in
set_option linter.unusedSimpArgs false in
theorem QeA(l:Lev)(ins:List Inp)(A A' A2:Option Addr)(c c' c2:Nat)(w:World)(h:Sl w 4 Qc A l.walls.length l.walls)(hg:Sl w 4 Qc A' l.gates.length l.gates)(e:A=none→c=0)(e':A'=none→c'=0)(hs:Sl w 3 Qd A2 ins.length ins)(hr:QA l ins=true):
 Calls Sq.prog 46 #[.agg #[.int .i64 l.id,.int .i64 l.ticks,.int .i64 l.start.x,.int .i64 l.start.y,.slice A l.walls.length c,.slice A' l.gates.length c',.int .i64 l.fin.lo.x,.int .i64 l.fin.lo.y,.int .i64 l.fin.hi.x,.int .i64 l.fin.hi.y,.int .i64 l.bans],.slice A2 ins.length c2] w fun e w'=>∃A4 c4,e= .returned (.tuple #[.slice A4 (ins.length+1) c4,.bool true])∧Own w' w.heap.size 72 9 QbV (.slice A4 (ins.length+1) c4) (ZD l ins (ins.length+1))∧Below w.heap.size w w':=by
 obtain⟨hl,hlg⟩:=J9.1 hr
 obtain⟨_,h60,_,hv,hvs⟩:=Zp hr
 obtain⟨_,_,hst,hwl,_,hgl,_,_,_,_⟩:=XP.1 hl
 have hlg': ¬(0≤QC l ins):=by omega
 obtain⟨i0,hi,hz0,hz1,hz2⟩:=info_parts (show(Sq.prog.info? 72).map (fun i=>(i.zero,i.size,i.bytes))=some (some (.agg #[.int .i64 0,.int .i64 0,.int .i64 0,.int .i64 0,.int .i64 0,.int .i64 0,.int .i64 0,.bool false,.bool false]),9,64) by kernel_rfl)
 have hmk: ∀W:World,(Instr.makeChan 117 (.int .i64 ((ins.length:Int)+1))).run Sq.prog W= .ok (.chan (some W.heap.size)) (W.alloc (.chan (ins.length+1) #[] false 0 0 false)):=fun W=>by
  have:=run_makeChan (P:=Sq.prog) (w:=W) (Sq.und Tryz.underlying117) hi .i64 (ins.length+1) (by omega) (by rw[hz2];omega)
  simpa using this
 go_enter Sq.func46, Tryz.ntmps46
 go_wp2_with fail
 refine(Zi l A A' c c' _ (h.below (by(with_reducible repeat first|assumption|exact bl0 _ _|refine blA ?_ _|(refine blS ?_ ?_ _;(simp<;>omega))|refine blD ?_|refine blN ?_ _|refine blF ?_ ‹_›))) (hg.below (by(with_reducible repeat first|assumption|exact bl0 _ _|refine blA ?_ _|(refine blS ?_ ?_ _;(simp<;>omega))|refine blD ?_|refine blN ?_ _|refine blF ?_ ‹_›))) e e' (by omega) (by omega)).mono ?_
 rw[hl]
 rintro e w1 ⟨rfl,hb1⟩
 have L1:Bk w1 w.heap.size 42 #[.int .i64 l.id,.int .i64 l.ticks,.int .i64 l.start.x,.int .i64 l.start.y,.slice A l.walls.length c,.slice A' l.gates.length c',.int .i64 l.fin.lo.x,.int .i64 l.fin.lo.y,.int .i64 l.fin.hi.x,.int .i64 l.fin.hi.y,.int .i64 l.bans]:=Bk.later (by(repeat first|(with_reducible first|assumption|exact kN _ _ _ (by simp)|refine kA ?_ _|refine kD ?_|refine kW ?_ _|apply Bk.set'|refine kF ?_ (by simp<;>omega) _|refine kL ?_ ‹_›|refine kG ?_ ‹_› (by first|omega|simp<;>omega))|exact⟨by with_reducible rfl⟩|exact⟨by simp⟩)) hb1
 have B1:Below w.heap.size w w1:=by(with_reducible repeat first|assumption|exact bl0 _ _|refine blA ?_ _|(refine blS ?_ ?_ _;(simp<;>omega))|refine blD ?_|refine blN ?_ _|refine blF ?_ ‹_›)
 clear hb1
 obtain⟨⟨l0,l1,l2,l3,l4,l5,l6,l7,l8,l9,l10⟩,lf⟩:=L1.c11
 go_wp2_with fail
 refine(JQ l ins A A' A2 c c' c2 _ (h.below (by(with_reducible repeat first|assumption|exact bl0 _ _|refine blA ?_ _|(refine blS ?_ ?_ _;(simp<;>omega))|refine blD ?_|refine blN ?_ _|refine blF ?_ ‹_›))) (hg.below (by(with_reducible repeat first|assumption|exact bl0 _ _|refine blA ?_ _|(refine blS ?_ ?_ _;(simp<;>omega))|refine blD ?_|refine blN ?_ _|refine blF ?_ ‹_›))) e e' (by omega) (by omega) hl (hs.below (by(with_reducible repeat first|assumption|exact bl0 _ _|refine blA ?_ _|(refine blS ?_ ?_ _;(simp<;>omega))|refine blD ?_|refine blN ?_ _|refine blF ?_ ‹_›))) (by omega)).mono ?_
 rintro e w2 ⟨rfl,hb2⟩
 have L2:Bk w2 w.heap.size 42 #[.int .i64 l.id,.int .i64 l.ticks,.int .i64 l.start.x,.int .i64 l.start.y,.slice A l.walls.length c,.slice A' l.gates.length c',.int .i64 l.fin.lo.x,.int .i64 l.fin.lo.y,.int .i64 l.fin.hi.x,.int .i64 l.fin.hi.y,.int .i64 l.bans]:=Bk.later (by(repeat first|(with_reducible first|assumption|exact kN _ _ _ (by simp)|refine kA ?_ _|refine kD ?_|refine kW ?_ _|apply Bk.set'|refine kF ?_ (by simp<;>omega) _|refine kL ?_ ‹_›|refine kG ?_ ‹_› (by first|omega|simp<;>omega))|exact⟨by with_reducible rfl⟩|exact⟨by simp⟩)) hb2
 have B2:Below w.heap.size w w2:=by(with_reducible repeat first|assumption|exact bl0 _ _|refine blA ?_ _|(refine blS ?_ ?_ _;(simp<;>omega))|refine blD ?_|refine blN ?_ _|refine blF ?_ ‹_›)
 clear hb2 l0 l1 l2 l3 l4 l5 l6 l7 l8 l9 l10 lf L1 B1
 obtain⟨⟨l0,l1,l2,l3,l4,l5,l6,l7,l8,l9,l10⟩,lf⟩:=L2.c11
 have zL:=L2.lt
 go_wp2_with fail
 refine(QiM l A A' c c' _ (h.below (by(with_reducible repeat first|assumption|exact bl0 _ _|refine blA ?_ _|(refine blS ?_ ?_ _;(simp<;>omega))|refine blD ?_|refine blN ?_ _|refine blF ?_ ‹_›))) (hg.below (by(with_reducible repeat first|assumption|exact bl0 _ _|refine blA ?_ _|(refine blS ?_ ?_ _;(simp<;>omega))|refine blD ?_|refine blN ?_ _|refine blF ?_ ‹_›))) e e' (by omega) (by omega) hl).mono ?_
 rintro e w3 ⟨rfl,hb3⟩
 have L3:Bk w3 w.heap.size 42 #[.int .i64 l.id,.int .i64 l.ticks,.int .i64 l.start.x,.int .i64 l.start.y,.slice A l.walls.length c,.slice A' l.gates.length c',.int .i64 l.fin.lo.x,.int .i64 l.fin.lo.y,.int .i64 l.fin.hi.x,.int .i64 l.fin.hi.y,.int .i64 l.bans]:=Bk.later (by(repeat first|(with_reducible first|assumption|exact kN _ _ _ (by simp)|refine kA ?_ _|refine kD ?_|refine kW ?_ _|apply Bk.set'|refine kF ?_ (by simp<;>omega) _|refine kL ?_ ‹_›|refine kG ?_ ‹_› (by first|omega|simp<;>omega))|exact⟨by with_reducible rfl⟩|exact⟨by simp⟩)) hb3
 have C3:Ob w3 w2.heap.size (.chan (ins.length+1) #[] false 0 0 false):=Ob.later (show Ob (w2.alloc _) w2.heap.size _ from heap_alloc_new w2 _) hb3
 have B3:Below w.heap.size w w3:=by(with_reducible repeat first|assumption|exact bl0 _ _|refine blA ?_ _|(refine blS ?_ ?_ _;(simp<;>omega))|refine blD ?_|refine blN ?_ _|refine blF ?_ ‹_›)
 clear hb3 l0 l1 l2 l3 l4 l5 l6 l7 l8 l9 l10 lf
 go_upto_region 5 with fail
 refine Xq (fun W=>RunW l A c A' c' w2.heap.size w3.heap.size ins.length 0 #[] (st0 l) w W) ⟨by(repeat first|(with_reducible first|assumption|exact kN _ _ _ (by simp)|refine kA ?_ _|refine kD ?_|refine kW ?_ _|apply Bk.set'|refine kF ?_ (by simp<;>omega) _|refine kL ?_ ‹_›|refine kG ?_ ‹_› (by first|omega|simp<;>omega))|exact⟨by with_reducible rfl⟩|exact⟨by simp⟩),C3.alloc _,Bk.new _ _ _ rfl,by(with_reducible repeat first|assumption|exact bl0 _ _|refine blA ?_ _|(refine blS ?_ ?_ _;(simp<;>omega))|refine blD ?_|refine blN ?_ _|refine blF ?_ ‹_›)⟩ ?_
 rintro W ⟨L4,C4,S4,B4⟩
 have zc:=B2.size
 have z23:w2.heap.size<w3.heap.size:=C3.lt
 clear L2 L3 C3 B2 B3
 generalize w2.heap.size=cb at*
 generalize w3.heap.size=sb at*
 have zS:=S4.lt
 obtain⟨⟨s0,s1,s2,s3,s4,s5,s6,s7,s8⟩,sf⟩:=S4.c9
 refine Qd5 ?_
 show Ar _ _ _ [0,1,2] _ _
 refine Ar.value (v:= .chan (some cb)) (w':=W) rfl rfl (by simp[execOp,go_sem]) ?_
 simp only[List.getElem_toArray,List.getElem_cons_zero,List.getElem_cons_succ,Act.put,List.setIfInBounds_toArray,List.set_cons_zero,List.set_cons_succ]
 refine Ar.value (v:=ZI (st0 l)) (w':=W) rfl rfl (by simp[execOp,go_sem,ZI, *]) ?_
 simp only[List.getElem_toArray,List.getElem_cons_zero,List.getElem_cons_succ,Act.put,List.setIfInBounds_toArray,List.set_cons_zero,List.set_cons_succ]
 refine Ar.send (c:=cb) (v:=ZI (st0 l)) (z:= .tuple #[]) rfl rfl (by simp[execOp,go_sem,scase]) C4 (by simp) ?_
 simp only[List.getElem_toArray,List.getElem_cons_zero,List.getElem_cons_succ,Act.put,List.setIfInBounds_toArray,List.set_cons_zero,List.set_cons_succ]
 refine Ar.nil ?_
 refine QaG (fun W=>RunW l A c A' c' cb sb ins.length 1 #[ZI (st0 l)] (st0 l) w W) ⟨L4.chan (by omega) ..,C4.chan ..,S4.chan (by omega) ..,below_setChan B4 (by omega) ..⟩ ?_
 rintro W5 ⟨L5,C5,S5,B5⟩
 clear L4 C4 S4 B4 s0 s1 s2 s3 s4 s5 s6 s7 s8 sf zS
 have z5:=S5.lt
 go_wp2
 go_loopw [35] (fun i wr=>∃k:Nat,k≤ins.length∧i= .int .i64 k∧RunW l A c A' c' cb sb ins.length (k+1) ((ZD l ins (k+1)).map ZI).toArray (Qg l ins k) w wr) (fun i _=>ins.length - (intOf i).toNat)
 case atStart=>exact⟨0,Nat.zero_le _,rfl,L5,C5,S5,B5⟩
 case round=>
  obtain⟨k,hk,rfl,L6,C6,S6,B6⟩:=hrel
  by_cases hlt:k<ins.length
  ·obtain⟨b,off,x,rfl,hbl,hx,hc⟩:=(hs.below B6).at_ hlt
   have q0:W.heap.size=W.heap.size:=rfl
   have r0:wr.cell? ⟨b,off+k*3,none⟩=some (.int .i64 x.s):=hc 0 _ rfl
   have r1:wr.cell? ⟨b,off+k*3+1,none⟩=some (.int .i64 x.p):=hc 1 _ rfl
   have r2:wr.cell? ⟨b,off+k*3+2,none⟩=some (.bool x.z):=hc 2 _ rfl
   obtain⟨x0,x1⟩:=hvs x (List.mem_of_getElem? hx)
   have HST:Hid (Qr l (Qg l ins k) x=Qg l ins (k+1)):=Lib.hid (Qbd hx).symm
   have HOK:Hid (sOk l (Qg l ins k)):=Lib.hid (Qav ins k hst)
   obtain⟨t0,t1⟩:=Qaa l ins k hk
   have t2:(Qg l ins k).t≤1000:=by omega
   have HBS:Hid (((ZD l ins (k+1)).map ZI).toArray.push (ZI (Qg l ins (k+1)))=((ZD l ins (k+1+1)).map ZI).toArray):=Lib.hid (Qm1 l ins k)
   have hsz:((ZD l ins (k+1)).map ZI).toArray.size<ins.length+1:=by rw[Qm0];omega
   clear hx hc t1 q0
   generalize Qg l ins k=v at*
   generalize hv':Qg l ins (k+1)=v' at*
   have HV:=Lib.hid hv'
   clear hv'
   generalize ((ZD l ins (k+1)).map ZI).toArray=bf at*
   have zL:=L6.lt;have zS:=S6.lt;have zC:=C6.lt
   obtain⟨⟨l0,l1,l2,l3,l4,l5,l6,l7,l8,l9,l10⟩,lf⟩:=L6.c11;obtain⟨⟨s0,s1,s2,s3,s4,s5,s6,s7,s8⟩,sf⟩:=S6.c9
   go_wp2_with fail
   refine(QmD l v v' x A A' c c' _ (h.below (by(with_reducible repeat first|assumption|exact bl0 _ _|refine blA ?_ _|(refine blS ?_ ?_ _;(simp<;>omega))|refine blD ?_|refine blN ?_ _|refine blF ?_ ‹_›))) (hg.below (by(with_reducible repeat first|assumption|exact bl0 _ _|refine blA ?_ _|(refine blS ?_ ?_ _;(simp<;>omega))|refine blD ?_|refine blN ?_ _|refine blF ?_ ‹_›))) (by omega) hl HOK.out x0 x1 t0 t2 HST.out).mono ?_
   rintro e w7 ⟨rfl,hb7⟩
   have L7:Bk w7 w.heap.size 42 #[.int .i64 l.id,.int .i64 l.ticks,.int .i64 l.start.x,.int .i64 l.start.y,.slice A l.walls.length c,.slice A' l.gates.length c',.int .i64 l.fin.lo.x,.int .i64 l.fin.lo.y,.int .i64 l.fin.hi.x,.int .i64 l.fin.hi.y,.int .i64 l.bans]:=Bk.later (by(repeat first|(with_reducible first|assumption|exact kN _ _ _ (by simp)|refine kA ?_ _|refine kD ?_|refine kW ?_ _|apply Bk.set'|refine kF ?_ (by simp<;>omega) _|refine kL ?_ ‹_›|refine kG ?_ ‹_› (by first|omega|simp<;>omega))|exact⟨by with_reducible rfl⟩|exact⟨by simp⟩)) hb7
   have S7:Bk w7 sb 72 #[.int .i64 v.t,.int .i64 v.p.x,.int .i64 v.p.y,.int .i64 v.f.x,.int .i64 v.f.y,.int .i64 v.d,.int .i64 v.g,.bool v.dn,.bool v.ov]:=Bk.later (by(repeat first|(with_reducible first|assumption|exact kN _ _ _ (by simp)|refine kA ?_ _|refine kD ?_|refine kW ?_ _|apply Bk.set'|refine kF ?_ (by simp<;>omega) _|refine kL ?_ ‹_›|refine kG ?_ ‹_› (by first|omega|simp<;>omega))|exact⟨by with_reducible rfl⟩|exact⟨by simp⟩)) hb7
   have C7:Ob w7 cb (.chan (ins.length+1) bf false (k+1) 0 false):=Ob.later (C6.alloc _) hb7
   have B7:Below w.heap.size w w7:=by(with_reducible repeat first|assumption|exact bl0 _ _|refine blA ?_ _|(refine blS ?_ ?_ _;(simp<;>omega))|refine blD ?_|refine blN ?_ _|refine blF ?_ ‹_›)
   clear hb7 l0 l1 l2 l3 l4 l5 l6 l7 l8 l9 l10 lf s0 s1 s2 s3 s4 s5 s6 s7 s8 sf L6 S6 C6 B6 r0 r1 r2
   have yS:=S7.lt
   obtain⟨⟨s0,s1,s2,s3,s4,s5,s6,s7,s8⟩,sf⟩:=S7.c9
   go_upto_region 10 with fail
   refine Xq (fun W=>RunW l A c A' c' cb sb ins.length (k+1) bf v' w W) ⟨by(repeat first|(with_reducible first|assumption|exact kN _ _ _ (by simp)|refine kA ?_ _|refine kD ?_|refine kW ?_ _|apply Bk.set'|refine kF ?_ (by simp<;>omega) _|refine kL ?_ ‹_›|refine kG ?_ ‹_› (by first|omega|simp<;>omega))|exact⟨by with_reducible rfl⟩|exact⟨by simp⟩),by(repeat(first|(with_reducible assumption)|(refine Ob.far ?_ (by first|omega|(simp;done)|(simp;omega)) _)|(refine Ob.alloc ?_ _))),by(repeat first|(with_reducible first|assumption|exact kN _ _ _ (by simp)|refine kA ?_ _|refine kD ?_|refine kW ?_ _|apply Bk.set'|refine kF ?_ (by simp<;>omega) _|refine kL ?_ ‹_›|refine kG ?_ ‹_› (by first|omega|simp<;>omega))|exact⟨by with_reducible rfl⟩|exact⟨by simp⟩),by(with_reducible repeat first|assumption|exact bl0 _ _|refine blA ?_ _|(refine blS ?_ ?_ _;(simp<;>omega))|refine blD ?_|refine blN ?_ _|refine blF ?_ ‹_›)⟩ ?_
   rintro W8 ⟨L8,C8,S8,B8⟩
   clear s0 s1 s2 s3 s4 s5 s6 s7 s8 sf L7 S7 C7 B7 yS
   have yS:=S8.lt
   obtain⟨⟨s0,s1,s2,s3,s4,s5,s6,s7,s8⟩,sf⟩:=S8.c9
   refine Qd5 ?_
   show Ar _ _ _ [0,1,2] _ _
   refine Ar.value (v:= .chan (some cb)) (w':=W8) rfl rfl (by simp[execOp,go_sem]) ?_
   simp only[List.getElem_toArray,List.getElem_cons_zero,List.getElem_cons_succ,Act.put,List.setIfInBounds_toArray,List.set_cons_zero,List.set_cons_succ]
   refine Ar.value (v:=ZI v') (w':=W8) rfl rfl (by simp[execOp,go_sem,ZI, *]) ?_
   simp only[List.getElem_toArray,List.getElem_cons_zero,List.getElem_cons_succ,Act.put,List.setIfInBounds_toArray,List.set_cons_zero,List.set_cons_succ]
   refine Ar.send (c:=cb) (v:=ZI v') (z:= .tuple #[]) rfl rfl (by simp[execOp,go_sem,scase]) C8 hsz ?_
   simp only[List.getElem_toArray,List.getElem_cons_zero,List.getElem_cons_succ,Act.put,List.setIfInBounds_toArray,List.set_cons_zero,List.set_cons_succ]
   refine Ar.nil ?_
   rw[HBS.out]
   refine QaG (fun W=>RunW l A c A' c' cb sb ins.length (k+1+1) ((ZD l ins (k+1+1)).map ZI).toArray v' w W) ⟨L8.chan (by omega) ..,C8.chan ..,S8.chan (by omega) ..,below_setChan B8 (by omega) ..⟩ ?_
   rintro W9 ⟨L9,C9,S9,B9⟩
   clear L8 C8 S8 B8 s0 s1 s2 s3 s4 s5 s6 s7 s8 sf yS
   go_wp2
   go_roundw
   case rel=>exact⟨k+1,by omega,by go_num,L9,C9,by rw[HV.out];exact S9,B9⟩
   case measure=>simp[intOf];omega
  ·have hkn:k=ins.length:=by omega
   subst hkn
   clear hlt hk
   generalize Qg l ins ins.length=v at*
   go_upto_region 12 with fail
   refine Qd5 ?_
   show Ar _ _ _ [0,1] _ _
   refine Ar.value (v:= .chan (some cb)) (w':=wr) rfl rfl (by simp[execOp,go_sem]) ?_
   simp only[List.getElem_toArray,List.getElem_cons_zero,List.getElem_cons_succ,Act.put,List.setIfInBounds_toArray,List.set_cons_zero,List.set_cons_succ]
   have hcl:=run_close_open (P:=Sq.prog) #[117] 0 (show wr.heap[cb]? =some _ from C6)
   refine Ar.value (v:= .tuple #[]) (w':=wr.setChan cb (ins.length+1) ((ZD l ins (ins.length+1)).map ZI).toArray true (ins.length+1) 0 false) rfl rfl (by simp[execOp,go_sem,resolve,invoke,builtin,hcl,World.setChan]) ?_
   simp only[List.getElem_toArray,List.getElem_cons_zero,List.getElem_cons_succ,Act.put,List.setIfInBounds_toArray,List.set_cons_zero,List.set_cons_succ]
   refine Ar.nil ?_
   refine QaG (fun W=>Ob W cb (.chan (ins.length+1) (Jo l ins 0) true (ins.length+1) 0 false)∧Below w.heap.size w W) ⟨C6.chan ..,below_setChan B6 (by omega) ..⟩ ?_
   rintro W10 ⟨C10,B10⟩
   clear hcl L6 C6 S6 B6
   go_wp2
   go_loopw [11] (fun out wr=>∃k:Nat,k≤ins.length+1∧Own wr w.heap.size 72 9 QbV out (ZD l ins k)∧Ob wr cb (.chan (ins.length+1) (Jo l ins k) true (ins.length+1) k false)∧Below w.heap.size w wr) (fun out _=>ins.length+1 - Qli out)
   case atStart=>exact⟨0,Nat.zero_le _,Own.none_,C10,B10⟩
   case round=>
    obtain⟨k,hk,O11,C11,B11⟩:=hrel
    obtain⟨A11,c11,hf11,hc11,_⟩:=O11.form
    rw[Qdm] at hf11 hc11
    subst hf11
    by_cases hlt:k<ins.length+1
    ·have hszk:0<(Jo l ins k).size:=by rw[Qkl];omega
     go_upto_region 15 with fail
     refine Qd5 ?_
     show Ar _ _ _ [0,1] _ _
     refine Ar.recv (c:=cb) (ok:=true) (z:= .agg #[.int .i64 0,.int .i64 0,.int .i64 0,.int .i64 0,.int .i64 0,.int .i64 0,.int .i64 0,.bool false,.bool false]) rfl rfl (by simp[execOp,go_sem,rcase];trace_state) C11 hszk ?_
     rw[QtM l ins hlt,QtN l ins hlt]
     simp only[got,if_true]
     simp only[List.getElem_toArray,List.getElem_cons_zero,List.getElem_cons_succ,Act.put,List.setIfInBounds_toArray,List.set_cons_zero,List.set_cons_succ]
     refine Ar.value (v:= .bool true) (w':=wr.setChan cb (ins.length+1) (Jo l ins (k+1)) true (ins.length+1) (k+1) false) rfl rfl (by simp[execOp,go_sem,ZI]) ?_
     simp only[List.getElem_toArray,List.getElem_cons_zero,List.getElem_cons_succ,Act.put,List.setIfInBounds_toArray,List.set_cons_zero,List.set_cons_succ]
     refine Ar.nil ?_
     refine QaG (fun W=>Own W w.heap.size 72 9 QbV (.slice A11 k c11) (ZD l ins k)∧Ob W cb (.chan (ins.length+1) (Jo l ins (k+1)) true (ins.length+1) (k+1) false)∧Below w.heap.size w W) ⟨O11.chan C11 ..,C11.chan ..,below_setChan B11 (by omega) ..⟩ ?_
     rintro W12 ⟨O12,C12,B12⟩
     clear O11 C11 B11 hszk
     have HSU:Hid (ZD l ins k++ [Qg l ins k]=ZD l ins (k+1)):=Lib.hid (Qln l ins k).symm
     have hsl:(ZD l ins k).length=k:=Qdm l ins k
     have hlo:=fun g e=>(O12.lt g e).1
     simp only[ZI]
     generalize Qg l ins k=v at*
     generalize ZD l ins k=xs at*
     have zC:=C12.lt
     have zB:=B12.size
     go_wp2_with (at_builtin;refine Xp rfl _ _ 83 rfl w.heap.size 72 i0 (.agg #[.int .i64 0,.int .i64 0,.int .i64 0,.int .i64 0,.int .i64 0,.int .i64 0,.int .i64 0,.bool false,.bool false]) 9 64 (Sq.und Tryz.underlying83) hi hz0 hz1 hz2 rfl (by decide) Qek Qtg _ xs [v] rfl ((O12.alloc _).alloc _) _ 1 1 rfl (Sl.oneAt _ _ _ _ (by rfl) (by first|rfl|simp)) (by intro e;cases e) (by unfold maxLen;omega) (by omega) (by simp;omega) ?_;intro v2 w14 O14 g14)
     have B14:Below w.heap.size w w14:=(Qf (Qf B12 _) _).grown g14 (by simp;omega) hlo
     rw[HSU.out] at O14
     have C14:Ob w14 cb (.chan (ins.length+1) (Jo l ins (k+1)) true (ins.length+1) (k+1) false):=((C12.alloc _).alloc _).grown g14 (by
      intro e
      obtain⟨_,h0|⟨g,cp,cur,e2,_,hgg,_⟩⟩:=O12
      ·obtain⟨h0,_⟩:=h0
       injection h0 with h0 _ _
       rw[h0] at e
       cases e
      ·injection e2 with e2 _ _
       rw[e2] at e
       injection e with e
       unfold Ob at C12
       rw[e] at C12
       rw[hgg] at C12
       cases C12)
     obtain⟨A14,c14,hf14,hc14,_⟩:=O14.form
     rw[Qdm] at hf14
     subst hf14
     go_roundw
     case rel=>exact⟨_,_,_,_,_,_,_,_,_,⟨k+1,by omega,O14,C14,B14⟩,rfl⟩
     case measure=>simp[Qli];omega
    ·have hkn:k=ins.length+1:=by omega
     subst hkn
     have hrb:Jo l ins (ins.length+1)= #[]:=Array.eq_empty_of_size_eq_zero (by rw[Qkl];omega)
     rw[hrb] at C11
     go_upto_region 15 with fail
     refine Qd5 ?_
     show Ar _ _ _ [0,1] _ _
     refine Ar.shut (c:=cb) (ok:=true) (z:= .agg #[.int .i64 0,.int .i64 0,.int .i64 0,.int .i64 0,.int .i64 0,.int .i64 0,.int .i64 0,.bool false,.bool false]) rfl rfl (by simp[execOp,go_sem,rcase]) C11 ?_
     simp only[got,if_true]
     simp only[List.getElem_toArray,List.getElem_cons_zero,List.getElem_cons_succ,Act.put,List.setIfInBounds_toArray,List.set_cons_zero,List.set_cons_succ]
     refine Ar.value (v:= .bool false) (w':=wr) rfl rfl (by simp[execOp,go_sem]) ?_
     simp only[List.getElem_toArray,List.getElem_cons_zero,List.getElem_cons_succ,Act.put,List.setIfInBounds_toArray,List.set_cons_zero,List.set_cons_succ]
     refine Ar.nil ?_
     go_wp2
     refine bodyPost_ret (v:= .tuple #[.slice A11 (ins.length+1) c11,.bool true]) (by simp[results, Tryz.results46,go_sem]) rfl ⟨A11,c11,rfl,O11,B11⟩
end Go.Proofs.YtgaimkihacljdaaGreat
/- The program's runs: RunTo, RunScore. (Round B) -/
namespace Go.Proofs.YtgaimkihacljdaaGreat
open Go.ChangeShapes Go.WideShapes Go.ChangeAt Go.RowKit
set_option maxRecDepth 100000 in
set_option maxHeartbeats 2000000 in
theorem Qgb(l:Lev)(ins:List Inp)(A A' A2:Option Addr)(c c' c2:Nat)(w:World)(h:Sl w 4 Qc A l.walls.length l.walls)(hg:Sl w 4 Qc A' l.gates.length l.gates)(e:A=none→c=0)(e':A'=none→c'=0)(hn1:(l.walls.length:Nat)≤9223372036854775807)(hn2:(l.gates.length:Nat)≤9223372036854775807)(hs:Sl w 3 Qd A2 ins.length ins)(hn3:(ins.length:Nat)≤9223372036854775807)(hr:QA l ins=false):
 Calls Sq.prog 46 #[.agg #[.int .i64 l.id,.int .i64 l.ticks,.int .i64 l.start.x,.int .i64 l.start.y,.slice A l.walls.length c,.slice A' l.gates.length c',.int .i64 l.fin.lo.x,.int .i64 l.fin.lo.y,.int .i64 l.fin.hi.x,.int .i64 l.fin.hi.y,.int .i64 l.bans],.slice A2 ins.length c2] w fun e w'=>e= .returned (.tuple #[.slice none 0 0,.bool false])∧Below w.heap.size w w':=by
 cases hl:QE l
 ·go_enter Sq.func46, Tryz.ntmps46
  go_wp2_with fail
  refine(Zi l A A' c c' _ (h.below (by(with_reducible repeat first|assumption|exact bl0 _ _|refine blA ?_ _|(refine blS ?_ ?_ _;(simp<;>omega))|refine blD ?_|refine blN ?_ _|refine blF ?_ ‹_›))) (hg.below (by(with_reducible repeat first|assumption|exact bl0 _ _|refine blA ?_ _|(refine blS ?_ ?_ _;(simp<;>omega))|refine blD ?_|refine blN ?_ _|refine blF ?_ ‹_›))) e e' hn1 hn2).mono ?_
  rw[hl]
  rintro e w1 ⟨rfl,hb1⟩
  go_wp2
  refine bodyPost_ret (v:= .tuple #[.slice none 0 0,.bool false]) (by simp[results, Tryz.results46,go_sem]) rfl ⟨rfl,by(with_reducible repeat first|assumption|exact bl0 _ _|refine blA ?_ _|(refine blS ?_ ?_ _;(simp<;>omega))|refine blD ?_|refine blN ?_ _|refine blF ?_ ‹_›)⟩
 ·have hlg:0≤QC l ins:=by
   have: ¬(QC l ins<0):=fun h=>by have:=J9.2 ⟨hl,h⟩;rw[hr] at this;cases this
   omega
  go_enter Sq.func46, Tryz.ntmps46
  go_wp2_with fail
  refine(Zi l A A' c c' _ (h.below (by(with_reducible repeat first|assumption|exact bl0 _ _|refine blA ?_ _|(refine blS ?_ ?_ _;(simp<;>omega))|refine blD ?_|refine blN ?_ _|refine blF ?_ ‹_›))) (hg.below (by(with_reducible repeat first|assumption|exact bl0 _ _|refine blA ?_ _|(refine blS ?_ ?_ _;(simp<;>omega))|refine blD ?_|refine blN ?_ _|refine blF ?_ ‹_›))) e e' hn1 hn2).mono ?_
  rw[hl]
  rintro e w1 ⟨rfl,hb1⟩
  have L1:Bk w1 w.heap.size 42 #[.int .i64 l.id,.int .i64 l.ticks,.int .i64 l.start.x,.int .i64 l.start.y,.slice A l.walls.length c,.slice A' l.gates.length c',.int .i64 l.fin.lo.x,.int .i64 l.fin.lo.y,.int .i64 l.fin.hi.x,.int .i64 l.fin.hi.y,.int .i64 l.bans]:=Bk.later (by(repeat first|(with_reducible first|assumption|exact kN _ _ _ (by simp)|refine kA ?_ _|refine kD ?_|refine kW ?_ _|apply Bk.set'|refine kF ?_ (by simp<;>omega) _|refine kL ?_ ‹_›|refine kG ?_ ‹_› (by first|omega|simp<;>omega))|exact⟨by with_reducible rfl⟩|exact⟨by simp⟩)) hb1
  have B1:Below w.heap.size w w1:=by(with_reducible repeat first|assumption|exact bl0 _ _|refine blA ?_ _|(refine blS ?_ ?_ _;(simp<;>omega))|refine blD ?_|refine blN ?_ _|refine blF ?_ ‹_›)
  clear hb1
  obtain⟨⟨l0,l1,l2,l3,l4,l5,l6,l7,l8,l9,l10⟩,lf⟩:=L1.c11
  go_wp2_with fail
  refine(JQ l ins A A' A2 c c' c2 _ (h.below (by(with_reducible repeat first|assumption|exact bl0 _ _|refine blA ?_ _|(refine blS ?_ ?_ _;(simp<;>omega))|refine blD ?_|refine blN ?_ _|refine blF ?_ ‹_›))) (hg.below (by(with_reducible repeat first|assumption|exact bl0 _ _|refine blA ?_ _|(refine blS ?_ ?_ _;(simp<;>omega))|refine blD ?_|refine blN ?_ _|refine blF ?_ ‹_›))) e e' hn1 hn2 hl (hs.below (by(with_reducible repeat first|assumption|exact bl0 _ _|refine blA ?_ _|(refine blS ?_ ?_ _;(simp<;>omega))|refine blD ?_|refine blN ?_ _|refine blF ?_ ‹_›))) hn3).mono ?_
  rintro e w2 ⟨rfl,hb2⟩
  go_wp2
  refine bodyPost_ret (v:= .tuple #[.slice none 0 0,.bool false]) (by simp[results, Tryz.results46,go_sem]) rfl ⟨rfl,by(with_reducible repeat first|assumption|exact bl0 _ _|refine blA ?_ _|(refine blS ?_ ?_ _;(simp<;>omega))|refine blD ?_|refine blN ?_ _|refine blF ?_ ‹_›)⟩
end Go.Proofs.YtgaimkihacljdaaGreat
/- RunScore of the program, RunTo of the reference. (Round B) -/
namespace Go.Proofs.YtgaimkihacljdaaGreat
open Go.ChangeShapes Go.WideShapes Go.ChangeAt Go.RowKit
end Go.Proofs.YtgaimkihacljdaaGreat
/- The draws' kit: a reader that lies above the code that it reads; what a draw leaves alone. -/
namespace Go.Proofs.YtgaimkihacljdaaGreat
open Go.ChangeShapes Go.WideShapes Go.ChangeAt Go.RowKit
section
variable {w w1 w2 : World} {row : Option Nat} {R n : Nat}
theorem Qk(h:w.grownBy w1 row)(o:Obj):w.grownBy (w1.alloc o) row:=XT h (Qbt (Qf (Below.refl _ _) o))
theorem Qn(h:w.grownBy w1 row)(h2:w1.grownBy w2 row):w.grownBy w2 row:=XT h h2
theorem Qm(h:w.grownBy w1 row)(h2:Below w1.heap.size w1 w2):w.grownBy w2 row:=XT h (Qbt h2)
theorem JP{row':Option Nat}(h:w.grownBy w1 row)(h2:w1.grownBy w2 row')(hn: ∀g,row'=some g→w.heap.size≤g):w.grownBy w2 row:=
 ⟨h2.os.trans h.os,h2.tape.trans h.tape,h2.output.trans h.output,Nat.le_trans h.size h2.size,fun k hk hne=>(h2.block k (Nat.lt_of_lt_of_le hk h.size) (fun e=>by have:=hn k e.symm;omega)).trans (h.block k hk hne)⟩
def RdL(w:World)(R n:Nat):Prop:=∃p,p≤n∧Rd w R p
theorem RdL.lt(h:RdL w R n):R<w.heap.size:=by
 obtain⟨p,_,A,m,c,l,_,_,_,_,_,_,_,hR⟩:=h
 exact hR
theorem RdL.keep(h:RdL w R n)(hk: ∀k,k≤R→w1.heap[k]? =w.heap[k]?)(hs:w.heap.size≤w1.heap.size):RdL w1 R n:=by
 obtain⟨p,hp,A,m,c,l,hm,h0,h1,h2,hsl,hl,hne,hR⟩:=h
 have hc: ∀k o,k≤R→w1.cell? ⟨k,o,none⟩=w.cell? ⟨k,o,none⟩:=fun k o hkR=>World.cell?_of_block (a:=⟨k,o,none⟩) (hk k hkR)
 have hf: ∀k o,k≤R→w1.frozen? ⟨k,o,none⟩=w.frozen? ⟨k,o,none⟩:=fun k o hkR=>by
  unfold World.frozen?
  simp only[hk k hkR]
 refine⟨p,hp,A,m,c,l,hm,(hc R 0 (Nat.le_refl _)).trans h0,(hc R 1 (Nat.le_refl _)).trans h1,(hf R 1 (Nat.le_refl _)).trans h2,?_,hl,hne,by omega⟩
 refine⟨hsl.1,fun hpos=>?_⟩
 obtain⟨b,off,e,hlt,hx⟩:=hsl.2 hpos
 have hbR:b<R:=hne hpos _ e
 exact⟨b,off,e,by omega,fun k x hkx j v hv=>(hc b _ (by omega)).trans (hx k x hkx j v hv)⟩
theorem RdL.alloc(h:RdL w R n)(o:Obj):RdL (w.alloc o) R n:=h.keep (fun k hk=>Below.heap_alloc w o k (by have:=h.lt;omega)) (by simp)
theorem RdL.far(h:RdL w R n){p:Addr}(hp:R<p.block)(u:Value):RdL (w.setCell p u) R n:=h.keep (fun k hk=>heap_setCell_other w p k u (by omega)) (by simp)
theorem RdL.drew(h:RdL w R n):RdL w.drew R n:=h
theorem RdL.drewN(h:RdL w R n)(k:Nat):RdL (w.drewN k) R n:=h
theorem RdL.later(h:RdL w R n)(hb:Below w.heap.size w w1):RdL w1 R n:=h.keep (fun k hk=>hb.block k (by have:=h.lt;omega)) hb.size
theorem RdL.own(h:RdL w R n){row':Option Nat}(hg:w.grownBy w1 row')(hn: ∀g,row'=some g→R<g):RdL w1 R n:=
 h.keep (fun k hk=>hg.block k (by have:=h.lt;omega) (fun e=>by have:=hn k e.symm;omega)) hg.size
theorem RdL.more(h:RdL w R n){m:Nat}(hm:n≤m):RdL w R m:=by
 obtain⟨p,hp,hr⟩:=h
 exact⟨p,by omega,hr⟩
end
end Go.Proofs.YtgaimkihacljdaaGreat
/- The program's hashes. (Round B) -/
namespace Go.Proofs.YtgaimkihacljdaaGreat
open Go.ChangeShapes Go.WideShapes Go.ChangeAt Go.RowKit
theorem Qey(w:World):Calls Sq.prog 71 #[] w fun e w'=>∃b:Nat,e= .returned (.func (.func 103) #[] #[.pointer (some ⟨b,0,none⟩)])∧w.heap.size≤b∧Bk w' b 3 #[.int .i64 17]∧Below w.heap.size w w'∧(∀(g:Addr) (l:List Int),Sl w 1 Qe (some g) 8 l→Sl w' 1 Qe (some g) 8 l):=by
 go_enter Sq.func71, Tryz.ntmps71
 go_wp2
 go_ret
 exact⟨w.heap.size,rfl,Nat.le_refl _,Bk.new _ _ _ rfl,Qf (Below.refl _ _) _,fun g l h=>h.below (Qf (Below.refl _ _) _)⟩
theorem Qdc{w:World}{o:Obj}{b:Nat}(h:(w.alloc o).heap.size≤b):w.heap.size<b:=by simp at h;omega
theorem QcM{w:World}{o:Obj}{w':World}(h:Below (w.alloc o).heap.size (w.alloc o) w'):Below w.heap.size w w':=Qa (Qf (Below.refl _ _) _) h
theorem Qa9{w:World}{b:Nat}(h:w.drew.heap.size≤b):w.heap.size≤b:=by simpa using h
theorem Ju{w w':World}(h:Below w.drew.heap.size w.drew w'):Below w.heap.size w w':=Qa (Qw (Below.refl _ _)) h
theorem QaX{W w1 w3:World}{b:Nat}(h:Below W.heap.size W w1)(hg:w1.grownBy w3 (some b))(hb:W.heap.size≤b):Below W.heap.size W w3:=h.grown hg h.size (fun k e=>by cases e;exact hb)
theorem QpW(h n:Int):(h*8191+n.tmod 1000003 % 1000003+1) % 1000003=Jf h n:=by
 have e:=Int.tmod_add_mul_tdiv n 1000003
 generalize n.tmod 1000003=r at*
 generalize n.tdiv 1000003=q at*
 have e2:r % 1000003=n % 1000003:=by omega
 unfold Jf
 rw[e2,Int.mul_comm h 8191]
set_option maxRecDepth 100000 in
set_option maxHeartbeats 2000000 in
theorem Qeu(hb:Nat)(h:Int)(A:Option Addr)(n c:Nat)(l:List Int)(w:World)(hs:Sl w 1 Qe A n l)(hn:(n:Nat)≤9223372036854775807)(h0:0≤h)(h1:h≤1000002)(hl: ∀x∈l,QN x)(hB:Bk w hb 3 #[.int .i64 h])(hne: ∀a,A=some a→a.block≠hb):
 Calls Sq.prog 103 #[.slice A n c,.pointer (some ⟨hb,0,none⟩)] w fun e w'=>e= .returned (.int .i64 (ZU h l))∧Bk w' hb 3 #[.int .i64 (ZU h l)]∧w.grownBy w' (some hb):=by
 obtain rfl:=hs.len
 go_enter Sq.func103, Tryz.ntmps103
 go_wp2
 go_loopw [8] (fun i wr=>∃k:Nat,k≤l.length∧i= .int .i64 k∧Bk wr hb 3 #[.int .i64 (ZU h (l.take k))]∧w.grownBy wr (some hb)) (fun i _=>l.length - (intOf i).toNat)
 case atStart=>exact⟨0,Nat.zero_le _,rfl,hB,Ql _ _⟩
 case round=>
  obtain⟨k,hk,rfl,hC,hg⟩:=hrel
  by_cases hlt:k<l.length
  ·obtain⟨b,off,x,rfl,hbl,hx,hc⟩:=(hs.grown hg (fun a e=>by intro e2;exact hne a e (by injection e2 with e2;exact e2.symm))).at_ hlt
   have q0:wr.cell? ⟨b,off+k,none⟩=some (.int .i64 x):=by have:=hc 0 _ rfl;simpa using this
   obtain⟨x0,x1⟩:=hl x (List.mem_of_getElem? hx)
   have HT:=Lib.hid (QiB (h:=h) hx)
   obtain⟨a0,a1⟩:=Qb9 ⟨h0,h1⟩ (l.take k)
   generalize ZU h (l.take k)=H at*
   have b1:=Int.tmod_lt_of_pos x (b:=1000003) (by omega)
   have b2:=Int.lt_tmod_of_pos x (b:=1000003) (by omega)
   have b3:=Int.tmod_lt_of_pos (x.tmod 1000003+1000003) (b:=1000003) (by omega)
   have b4:0≤(x.tmod 1000003+1000003).tmod 1000003:=Int.tmod_nonneg _ (by omega)
   have zC:=hC.lt
   obtain⟨d0,df⟩:=hC.c1
   clear hc hx hs
   go_wp2
   go_roundw
   case rel=>exact⟨k+1,by omega,by go_num,by rw[HT.out,←QpW];(repeat first|(with_reducible first|assumption|exact kN _ _ _ (by simp)|refine kA ?_ _|refine kD ?_|refine kW ?_ _|apply Bk.set'|refine kF ?_ (by simp<;>omega) _|refine kL ?_ ‹_›|refine kG ?_ ‹_› (by first|omega|simp<;>omega))|exact⟨by with_reducible rfl⟩|exact⟨by simp⟩),XT hg (grownBy_setCell' _ _ _)⟩
   case measure=>simp[intOf];omega
  ·have hkn:l.take k=l:=List.take_of_length_le (by omega)
   rw[hkn] at hC
   obtain⟨d0,df⟩:=hC.c1
   go_wp2
   go_ret
   exact⟨rfl,hC,hg⟩
theorem sl8(w:World)(T:TypeId)(a0 a1 a2 a3 a4 a5 a6 a7:Int):Sl (w.alloc (.cells #[.int .i64 a0,.int .i64 a1,.int .i64 a2,.int .i64 a3,.int .i64 a4,.int .i64 a5,.int .i64 a6,.int .i64 a7] T)) 1 Qe (some ⟨w.heap.size,0,none⟩) 8 [a0,a1,a2,a3,a4,a5,a6,a7]:=
 Sl.lit _ _ _ _ _ 8 rfl rfl (by simp[Qe])
def all8(a0 a1 a2 a3 a4 a5 a6 a7:Int):Prop:=∀x∈ [a0,a1,a2,a3,a4,a5,a6,a7],QN x
theorem Qev(b g:Nat)(a0 a1 a2 a3 a4 a5 a6 a7:Int)(w:World)(hS:Sl w 1 Qe (some ⟨g,0,none⟩) 8 [a0,a1,a2,a3,a4,a5,a6,a7])(hB:Bk w b 3 #[.int .i64 17])(hne:g≠b)(hl:all8 a0 a1 a2 a3 a4 a5 a6 a7):
 Calls Sq.prog 103 #[.slice (some ⟨g,0,none⟩) 8 8,.pointer (some ⟨b,0,none⟩)] w fun e w'=>e= .returned (.int .i64 (ZU 17 [a0,a1,a2,a3,a4,a5,a6,a7]))∧w.grownBy w' (some b):=by
 refine(Qeu b 17 _ 8 8 _ w hS (by omega) (by omega) (by omega) hl hB (by intro a e;injection e with e;subst e;exact hne)).mono ?_
 rintro e w' ⟨h1,_,h2⟩
 exact⟨h1,h2⟩
theorem Qf5(b:Nat)(T:TypeId)(a0 a1 a2 a3 a4 a5 a6 a7:Int)(w:World)(hB:Bk w b 3 #[.int .i64 17])(hl:all8 a0 a1 a2 a3 a4 a5 a6 a7):
 Calls Sq.prog 103 #[.slice (some ⟨w.heap.size,0,none⟩) 8 8,.pointer (some ⟨b,0,none⟩)] (w.alloc (.cells #[.int .i64 a0,.int .i64 a1,.int .i64 a2,.int .i64 a3,.int .i64 a4,.int .i64 a5,.int .i64 a6,.int .i64 a7] T)) fun e w'=>e= .returned (.int .i64 (ZU 17 [a0,a1,a2,a3,a4,a5,a6,a7]))∧w.grownBy w' (some b):=by
 have hlt:=hB.lt
 refine(Qev b w.heap.size a0 a1 a2 a3 a4 a5 a6 a7 _ (sl8 w T a0 a1 a2 a3 a4 a5 a6 a7) (hB.alloc _) (by omega) hl).mono ?_
 rintro e w' ⟨h1,h2⟩
 exact⟨h1,XT (Qk (Ql _ _) _) h2⟩
theorem ZE{W w':World}{b:Nat}{T:TypeId}{a0 a1 a2 a3 a4 a5 a6 a7 a8:Value}(h:Bk W b T #[a0,a1,a2,a3,a4,a5,a6,a7,a8])(hb:Below W.heap.size W w'):
 w'.cell? ⟨b,0,none⟩=some a0∧w'.cell? ⟨b,1,none⟩=some a1∧w'.cell? ⟨b,2,none⟩=some a2∧w'.cell? ⟨b,3,none⟩=some a3∧w'.cell? ⟨b,4,none⟩=some a4∧w'.cell? ⟨b,5,none⟩=some a5∧w'.cell? ⟨b,6,none⟩=some a6:=by
 have k:=h.later hb
 exact⟨k.cell 0,k.cell 1,k.cell 2,k.cell 3,k.cell 4,k.cell 5,k.cell 6⟩
set_option maxRecDepth 100000 in
set_option maxHeartbeats 2000000 in
theorem Qp2(t px py ux uy d g:Int)(w:World)(b1:QN t)(b2:QN px)(b3:QN py)(b4:QN ux)(b5:QN uy)(b6:QN d)(b7:QN g):Calls Sq.prog 47 #[.agg #[.int .i64 t,.int .i64 px,.int .i64 py,.int .i64 ux,.int .i64 uy,.int .i64 d,.int .i64 g,.bool false,.bool false]] w fun e w'=>e= .returned (.int .i64 (ZU 17 [t,px,py,ux,uy,d,g,0]))∧Below w.heap.size w w':=by
 have HL:Hid (all8 t px py ux uy d g 0):=Lib.hid (by intro x hx;simp only[List.mem_cons,List.not_mem_nil,or_false] at hx;rcases hx with rfl|rfl|rfl|rfl|rfl|rfl|rfl|rfl<;>first|assumption|(unfold QN;omega))
 clear b1 b2 b3 b4 b5 b6 b7
 go_enter Sq.func47, Tryz.ntmps47
 go_wp2
 refine Xq (fun W=>Bk W w.heap.size 72 #[.int .i64 t,.int .i64 px,.int .i64 py,.int .i64 ux,.int .i64 uy,.int .i64 d,.int .i64 g,.bool false,.bool false]∧Below w.heap.size w W) ⟨by(repeat first|(with_reducible first|assumption|exact kN _ _ _ (by simp)|refine kA ?_ _|refine kD ?_|refine kW ?_ _|apply Bk.set'|refine kF ?_ (by simp<;>omega) _|refine kL ?_ ‹_›|refine kG ?_ ‹_› (by first|omega|simp<;>omega))|exact⟨by with_reducible rfl⟩|exact⟨by simp⟩),by(with_reducible repeat first|assumption|exact bl0 _ _|refine blA ?_ _|(refine blS ?_ ?_ _;(simp<;>omega))|refine blD ?_|refine blN ?_ _|refine blF ?_ ‹_›)⟩ ?_
 rintro W ⟨PW,dW⟩
 have zW:=PW.lt
 have HSL: ∀T:TypeId,Sl (World.drew (W.alloc (.cells #[.int .i64 t,.int .i64 px,.int .i64 py,.int .i64 ux,.int .i64 uy,.int .i64 d,.int .i64 g,.int .i64 0] T))) 1 Qe (some ⟨W.heap.size,0,none⟩) 8 [t,px,py,ux,uy,d,g,0]:=fun T=>sl8 W T t px py ux uy d g 0
 go_region_held3 (fun w'=>w'.cell? ⟨w.heap.size,0,none⟩=some (.int .i64 t)∧w'.cell? ⟨w.heap.size,1,none⟩=some (.int .i64 px)∧w'.cell? ⟨w.heap.size,2,none⟩=some (.int .i64 py)∧w'.cell? ⟨w.heap.size,3,none⟩=some (.int .i64 ux)∧w'.cell? ⟨w.heap.size,4,none⟩=some (.int .i64 uy)∧w'.cell? ⟨w.heap.size,5,none⟩=some (.int .i64 d)∧w'.cell? ⟨w.heap.size,6,none⟩=some (.int .i64 g))
  (first|(with_reducible exact ZE PW hd3)|(with_reducible exact ZE PW (Ju hbl1))|(with_reducible exact ZE PW (QcM (Ju hbl1)))|(with_reducible exact ZE PW (Qf (Ju hbl1) _))|(with_reducible exact ZE PW (Qw (Below.refl _ _)))|(with_reducible exact ZE PW (Below.refl _ _))|(with_reducible exact ZE PW (Qf (Below.refl _ _) _))|(with_reducible exact ZE PW (Qw (Qf (Below.refl _ _) _)))|(with_reducible exact ZE PW (Qf (Qw (Below.refl _ _)) _)))
  (first
  |(go_at_call 71;refine(Qey _).mono ?_;rintro e w1 ⟨b,rfl,hb0,hB1,hbl1,hk1⟩)
  |(go_at_call 103;with_reducible refine(Qf5 b _ t px py ux uy d g 0 w1 hB1 HL.out).mono ?_;rintro e w3 ⟨rfl,hg3⟩;have hd3:Below W.heap.size W w3:=QaX (Ju hbl1) hg3 (Qa9 hb0))
  |(go_at_call 103;with_reducible refine(Qev b W.heap.size t px py ux uy d g 0 w1 (hk1 _ _ (HSL _)) hB1 (Nat.ne_of_lt (Qdc (Qa9 hb0))) HL.out).mono ?_;rintro e w3 ⟨rfl,hg3⟩;have hd3:Below W.heap.size W w3:=QaX (QcM (Ju hbl1)) hg3 (Nat.le_of_lt (Qdc (Qa9 hb0))))
  |fail "no arm")
 all_goals
  go_wp2
  go_ret
  exact⟨rfl,Qa dW hd3⟩
set_option maxRecDepth 100000 in
set_option maxHeartbeats 2000000 in
theorem Qp3(t px py ux uy d g:Int)(w:World)(b1:QN t)(b2:QN px)(b3:QN py)(b4:QN ux)(b5:QN uy)(b6:QN d)(b7:QN g):Calls Sq.prog 47 #[.agg #[.int .i64 t,.int .i64 px,.int .i64 py,.int .i64 ux,.int .i64 uy,.int .i64 d,.int .i64 g,.bool false,.bool true]] w fun e w'=>e= .returned (.int .i64 (ZU 17 [t,px,py,ux,uy,d,g,2]))∧Below w.heap.size w w':=by
 have HL:Hid (all8 t px py ux uy d g 2):=Lib.hid (by intro x hx;simp only[List.mem_cons,List.not_mem_nil,or_false] at hx;rcases hx with rfl|rfl|rfl|rfl|rfl|rfl|rfl|rfl<;>first|assumption|(unfold QN;omega))
 clear b1 b2 b3 b4 b5 b6 b7
 go_enter Sq.func47, Tryz.ntmps47
 go_wp2
 refine Xq (fun W=>Bk W w.heap.size 72 #[.int .i64 t,.int .i64 px,.int .i64 py,.int .i64 ux,.int .i64 uy,.int .i64 d,.int .i64 g,.bool false,.bool true]∧Below w.heap.size w W) ⟨by(repeat first|(with_reducible first|assumption|exact kN _ _ _ (by simp)|refine kA ?_ _|refine kD ?_|refine kW ?_ _|apply Bk.set'|refine kF ?_ (by simp<;>omega) _|refine kL ?_ ‹_›|refine kG ?_ ‹_› (by first|omega|simp<;>omega))|exact⟨by with_reducible rfl⟩|exact⟨by simp⟩),by(with_reducible repeat first|assumption|exact bl0 _ _|refine blA ?_ _|(refine blS ?_ ?_ _;(simp<;>omega))|refine blD ?_|refine blN ?_ _|refine blF ?_ ‹_›)⟩ ?_
 rintro W ⟨PW,dW⟩
 have zW:=PW.lt
 have HSL: ∀T:TypeId,Sl (World.drew (W.alloc (.cells #[.int .i64 t,.int .i64 px,.int .i64 py,.int .i64 ux,.int .i64 uy,.int .i64 d,.int .i64 g,.int .i64 2] T))) 1 Qe (some ⟨W.heap.size,0,none⟩) 8 [t,px,py,ux,uy,d,g,2]:=fun T=>sl8 W T t px py ux uy d g 2
 go_region_held3 (fun w'=>w'.cell? ⟨w.heap.size,0,none⟩=some (.int .i64 t)∧w'.cell? ⟨w.heap.size,1,none⟩=some (.int .i64 px)∧w'.cell? ⟨w.heap.size,2,none⟩=some (.int .i64 py)∧w'.cell? ⟨w.heap.size,3,none⟩=some (.int .i64 ux)∧w'.cell? ⟨w.heap.size,4,none⟩=some (.int .i64 uy)∧w'.cell? ⟨w.heap.size,5,none⟩=some (.int .i64 d)∧w'.cell? ⟨w.heap.size,6,none⟩=some (.int .i64 g))
  (first|(with_reducible exact ZE PW hd3)|(with_reducible exact ZE PW (Ju hbl1))|(with_reducible exact ZE PW (QcM (Ju hbl1)))|(with_reducible exact ZE PW (Qf (Ju hbl1) _))|(with_reducible exact ZE PW (Qw (Below.refl _ _)))|(with_reducible exact ZE PW (Below.refl _ _))|(with_reducible exact ZE PW (Qf (Below.refl _ _) _))|(with_reducible exact ZE PW (Qw (Qf (Below.refl _ _) _)))|(with_reducible exact ZE PW (Qf (Qw (Below.refl _ _)) _)))
  (first
  |(go_at_call 71;refine(Qey _).mono ?_;rintro e w1 ⟨b,rfl,hb0,hB1,hbl1,hk1⟩)
  |(go_at_call 103;with_reducible refine(Qf5 b _ t px py ux uy d g 2 w1 hB1 HL.out).mono ?_;rintro e w3 ⟨rfl,hg3⟩;have hd3:Below W.heap.size W w3:=QaX (Ju hbl1) hg3 (Qa9 hb0))
  |(go_at_call 103;with_reducible refine(Qev b W.heap.size t px py ux uy d g 2 w1 (hk1 _ _ (HSL _)) hB1 (Nat.ne_of_lt (Qdc (Qa9 hb0))) HL.out).mono ?_;rintro e w3 ⟨rfl,hg3⟩;have hd3:Below W.heap.size W w3:=QaX (QcM (Ju hbl1)) hg3 (Nat.le_of_lt (Qdc (Qa9 hb0))))
  |fail "no arm")
 all_goals
  go_wp2
  go_ret
  exact⟨rfl,Qa dW hd3⟩
set_option maxRecDepth 100000 in
set_option maxHeartbeats 2000000 in
theorem Qp4(t px py ux uy d g:Int)(w:World)(b1:QN t)(b2:QN px)(b3:QN py)(b4:QN ux)(b5:QN uy)(b6:QN d)(b7:QN g):Calls Sq.prog 47 #[.agg #[.int .i64 t,.int .i64 px,.int .i64 py,.int .i64 ux,.int .i64 uy,.int .i64 d,.int .i64 g,.bool true,.bool false]] w fun e w'=>e= .returned (.int .i64 (ZU 17 [t,px,py,ux,uy,d,g,1]))∧Below w.heap.size w w':=by
 have HL:Hid (all8 t px py ux uy d g 1):=Lib.hid (by intro x hx;simp only[List.mem_cons,List.not_mem_nil,or_false] at hx;rcases hx with rfl|rfl|rfl|rfl|rfl|rfl|rfl|rfl<;>first|assumption|(unfold QN;omega))
 clear b1 b2 b3 b4 b5 b6 b7
 go_enter Sq.func47, Tryz.ntmps47
 go_wp2
 refine Xq (fun W=>Bk W w.heap.size 72 #[.int .i64 t,.int .i64 px,.int .i64 py,.int .i64 ux,.int .i64 uy,.int .i64 d,.int .i64 g,.bool true,.bool false]∧Below w.heap.size w W) ⟨by(repeat first|(with_reducible first|assumption|exact kN _ _ _ (by simp)|refine kA ?_ _|refine kD ?_|refine kW ?_ _|apply Bk.set'|refine kF ?_ (by simp<;>omega) _|refine kL ?_ ‹_›|refine kG ?_ ‹_› (by first|omega|simp<;>omega))|exact⟨by with_reducible rfl⟩|exact⟨by simp⟩),by(with_reducible repeat first|assumption|exact bl0 _ _|refine blA ?_ _|(refine blS ?_ ?_ _;(simp<;>omega))|refine blD ?_|refine blN ?_ _|refine blF ?_ ‹_›)⟩ ?_
 rintro W ⟨PW,dW⟩
 have zW:=PW.lt
 have HSL: ∀T:TypeId,Sl (World.drew (W.alloc (.cells #[.int .i64 t,.int .i64 px,.int .i64 py,.int .i64 ux,.int .i64 uy,.int .i64 d,.int .i64 g,.int .i64 1] T))) 1 Qe (some ⟨W.heap.size,0,none⟩) 8 [t,px,py,ux,uy,d,g,1]:=fun T=>sl8 W T t px py ux uy d g 1
 go_region_held3 (fun w'=>w'.cell? ⟨w.heap.size,0,none⟩=some (.int .i64 t)∧w'.cell? ⟨w.heap.size,1,none⟩=some (.int .i64 px)∧w'.cell? ⟨w.heap.size,2,none⟩=some (.int .i64 py)∧w'.cell? ⟨w.heap.size,3,none⟩=some (.int .i64 ux)∧w'.cell? ⟨w.heap.size,4,none⟩=some (.int .i64 uy)∧w'.cell? ⟨w.heap.size,5,none⟩=some (.int .i64 d)∧w'.cell? ⟨w.heap.size,6,none⟩=some (.int .i64 g))
  (first|(with_reducible exact ZE PW hd3)|(with_reducible exact ZE PW (Ju hbl1))|(with_reducible exact ZE PW (QcM (Ju hbl1)))|(with_reducible exact ZE PW (Qf (Ju hbl1) _))|(with_reducible exact ZE PW (Qw (Below.refl _ _)))|(with_reducible exact ZE PW (Below.refl _ _))|(with_reducible exact ZE PW (Qf (Below.refl _ _) _))|(with_reducible exact ZE PW (Qw (Qf (Below.refl _ _) _)))|(with_reducible exact ZE PW (Qf (Qw (Below.refl _ _)) _)))
  (first
  |(go_at_call 71;refine(Qey _).mono ?_;rintro e w1 ⟨b,rfl,hb0,hB1,hbl1,hk1⟩)
  |(go_at_call 103;with_reducible refine(Qf5 b _ t px py ux uy d g 1 w1 hB1 HL.out).mono ?_;rintro e w3 ⟨rfl,hg3⟩;have hd3:Below W.heap.size W w3:=QaX (Ju hbl1) hg3 (Qa9 hb0))
  |(go_at_call 103;with_reducible refine(Qev b W.heap.size t px py ux uy d g 1 w1 (hk1 _ _ (HSL _)) hB1 (Nat.ne_of_lt (Qdc (Qa9 hb0))) HL.out).mono ?_;rintro e w3 ⟨rfl,hg3⟩;have hd3:Below W.heap.size W w3:=QaX (QcM (Ju hbl1)) hg3 (Nat.le_of_lt (Qdc (Qa9 hb0))))
  |fail "no arm")
 all_goals
  go_wp2
  go_ret
  exact⟨rfl,Qa dW hd3⟩
end Go.Proofs.YtgaimkihacljdaaGreat
/- The program's RunHashes and RunPath; the reference's RunPath. (Round B) -/
namespace Go.Proofs.YtgaimkihacljdaaGreat
open Go.ChangeShapes Go.WideShapes Go.ChangeAt Go.RowKit
theorem Qpu(t d g:Int)(p f:V2):Qeo ⟨t,p,f,d,g,false,false⟩=0:=rfl
theorem Qpv(t d g:Int)(p f:V2):Qeo ⟨t,p,f,d,g,false,true⟩=2:=rfl
theorem Qpw(t d g:Int)(p f:V2):Qeo ⟨t,p,f,d,g,true,false⟩=1:=rfl
theorem QiP(s:St)(w:World)(hb:stBd s)(ex:(s.dn && s.ov)=false):Calls Sq.prog 47 #[.agg #[.int .i64 s.t,.int .i64 s.p.x,.int .i64 s.p.y,.int .i64 s.f.x,.int .i64 s.f.y,.int .i64 s.d,.int .i64 s.g,.bool s.dn,.bool s.ov]] w fun e w'=>e= .returned (.int .i64 (XE s))∧Below w.heap.size w w':=by
 obtain⟨t,⟨px,py⟩,⟨ux,uy⟩,d,g,dn,ov⟩:=s
 obtain⟨b1,b2,b3,b4,b5,b6,b7⟩:=hb
 simp only at*
 unfold XE
 cases dn
 ·cases ov
  ·rw[Qpu];exact Qp2 t px py ux uy d g w b1 b2 b3 b4 b5 b6 b7
  ·rw[Qpv];exact Qp3 t px py ux uy d g w b1 b2 b3 b4 b5 b6 b7
 ·cases ov
  ·rw[Qpw];exact Qp4 t px py ux uy d g w b1 b2 b3 b4 b5 b6 b7
  ·cases ex
theorem Qlm{w:World}{b k:Nat}{s:St}(h: ∀(j:Nat) (v:Value),(QbV s)[j]? =some v→w.cell? ⟨b,k+j,none⟩=some v):w.cell? ⟨b,k,none⟩=some (.int .i64 s.t)∧w.cell? ⟨b,k+1,none⟩=some (.int .i64 s.p.x)∧w.cell? ⟨b,k+2,none⟩=some (.int .i64 s.p.y)∧w.cell? ⟨b,k+3,none⟩=some (.int .i64 s.f.x)∧w.cell? ⟨b,k+4,none⟩=some (.int .i64 s.f.y)∧w.cell? ⟨b,k+5,none⟩=some (.int .i64 s.d)∧w.cell? ⟨b,k+6,none⟩=some (.int .i64 s.g)∧w.cell? ⟨b,k+7,none⟩=some (.bool s.dn)∧w.cell? ⟨b,k+8,none⟩=some (.bool s.ov):=
 ⟨h 0 _ rfl,h 1 _ rfl,h 2 _ rfl,h 3 _ rfl,h 4 _ rfl,h 5 _ rfl,h 6 _ rfl,h 7 _ rfl,h 8 _ rfl⟩
set_option maxRecDepth 100000 in
set_option maxHeartbeats 2000000 in
theorem XF(l:Lev)(ins:List Inp)(A A' A2:Option Addr)(c c' c2:Nat)(w:World)(h:Sl w 4 Qc A l.walls.length l.walls)(hg:Sl w 4 Qc A' l.gates.length l.gates)(e:A=none→c=0)(e':A'=none→c'=0)(hn1:(l.walls.length:Nat)≤9223372036854775807)(hn2:(l.gates.length:Nat)≤9223372036854775807)(hs:Sl w 3 Qd A2 ins.length ins)(hn3:(ins.length:Nat)≤9223372036854775807):
 Calls Sq.prog 26 #[.agg #[.int .i64 l.id,.int .i64 l.ticks,.int .i64 l.start.x,.int .i64 l.start.y,.slice A l.walls.length c,.slice A' l.gates.length c',.int .i64 l.fin.lo.x,.int .i64 l.fin.lo.y,.int .i64 l.fin.hi.x,.int .i64 l.fin.hi.y,.int .i64 l.bans],.slice A2 ins.length c2] w (XM 3 1 Qe (Qq l ins) w):=by
 rcases Bool.eq_false_or_eq_true (QA l ins) with hr|hr
 ·obtain⟨hL,h60,_,_,_⟩:=Zp hr
  have hR:Hid (Qq l ins=Xs l ins (ins.length/5)):=Lib.hid (by unfold Qq;rw[hr];rfl)
  rw[hR.out]
  obtain⟨i0,hi,hz0,hz1,hz2⟩:=info_parts Sq.infoInt
  go_enter Sq.func26, Tryz.ntmps26
  go_wp2_with fail
  refine(QeA l ins A A' A2 c c' c2 _ (h.below (by(with_reducible repeat first|assumption|exact bl0 _ _|refine blA ?_ _|(refine blS ?_ ?_ _;(simp<;>omega))|refine blD ?_|refine blN ?_ _|refine blF ?_ ‹_›))) (hg.below (by(with_reducible repeat first|assumption|exact bl0 _ _|refine blA ?_ _|(refine blS ?_ ?_ _;(simp<;>omega))|refine blD ?_|refine blN ?_ _|refine blF ?_ ‹_›))) e e' (hs.below (by(with_reducible repeat first|assumption|exact bl0 _ _|refine blA ?_ _|(refine blS ?_ ?_ _;(simp<;>omega))|refine blD ?_|refine blN ?_ _|refine blF ?_ ‹_›))) hr).mono ?_
  rintro e w1 ⟨A4,c4,rfl,hO,hb1⟩
  have d1:Below w.heap.size w w1:=by(with_reducible repeat first|assumption|exact bl0 _ _|refine blA ?_ _|(refine blS ?_ ?_ _;(simp<;>omega))|refine blD ?_|refine blN ?_ _|refine blF ?_ ‹_›)
  have z1:=d1.size
  have hsl:=hO.sl Qek
  clear hb1 hO h hg hs hr
  go_wp2
  go_loopw [7,8] (fun v i wr=>∃k m:Nat,m=5*(k+1)∧5*k≤ins.length∧i= .int .i64 m∧Own wr w1.heap.size 3 1 Qe v (Xs l ins k)∧Below w1.heap.size w1 wr) (fun _ i _=>ins.length+6 - (intOf i).toNat)
  case atStart=>exact⟨0,5,rfl,by omega,rfl,Own.none_,Below.refl _ _⟩
  case round=>
   obtain⟨k,m,hm,hk5,rfl,ho,hb⟩:=hrel
   have hkl:(Xs l ins k).length≤60:=by rw[Qca];omega
   by_cases h5:(m:Int)<(ins.length:Int)+1
   ·have Hm:=Lib.hid hm
    have hml:m≤ins.length:=by omega
    have HS:=Lib.hid (QiE l ins k)
    have hst:=Qkx (ins:=ins) hL m hml (by omega)
    have hex:=(Qav ins m hL.st).ex
    have hgt:=Qfa l ins (show m<ins.length+1 by omega)
    obtain⟨b,off,x,rfl,hbl,hx,hc⟩:=(hsl.below hb).at_ (k:=m) (by omega)
    rw[hgt] at hx
    injection hx with hx
    subst hx
    obtain⟨q0,q1,q2,q3,q4,q5,q6,q7,q8⟩:=Qlm hc
    have HST:=Lib.hid hst
    have HEX:=Lib.hid hex
    clear hm hc hgt hst hex
    go_wp2_with fail
    refine(QiP _ _ HST.out HEX.out).mono ?_
    rintro e w3 ⟨rfl,hb3⟩
    have ho3:=ho.later hb3
    have hd3:Below w1.heap.size w1 w3:=Qa hb hb3
    have hgt3:=ho3.lt
    have hz3:=hd3.size
    clear hb3 ho hb q0 q1 q2 q3 q4 q5 q6 q7 q8
    go_wp2_with (at_builtin;refine Xp rfl _ _ 30 rfl w1.heap.size 3 i0 (.int .i64 0) 1 8 (Sq.und Tryz.underlying30) hi hz0 hz1 hz2 rfl (by decide) Qi JH _ _ [XE (Qg l ins m)] rfl (ho3.alloc _) _ 1 1 rfl (Sl.one _ (XE (Qg l ins m)) _ _ rfl) (by intro e;cases e) (by unfold maxLen;omega) (by omega) (by simp;omega) ?_;intro v' w4 ho4 hg4)
    case roundEnd=>
     have hd4:Below w1.heap.size w1 w4:=(Qf hd3 _).grown hg4 (by have:=hd3.size;simp;omega) (by intro g e;have:=(hgt3 _ e).1;omega)
     have HS2:Xs l ins (k+1)=Xs l ins k++ [XE (Qg l ins m)]:=by rw[Hm.out];exact HS.out
     rw[←HS2] at ho4
     go_roundw
     case rel=>exact⟨k+1,m+5,by have:=Hm.out;omega,by have:=Hm.out;omega,by go_num,ho4,hd4⟩
     case measure=>simp[intOf];omega
   ·have hk:k=ins.length/5:=by omega
    obtain⟨A1,c1,rfl,hc1,_⟩:=ho.form
    subst hk
    have hlen:=Qca l ins (ins.length/5)
    have d2:Below w.heap.size w wr:=Qa d1 hb
    clear hsl hm
    go_wp2
    exact bodyPost_ret (v:= .slice A1 (Xs l ins (ins.length/5)).length c1) (by simp[results, Tryz.results26,go_sem,hlen]) rfl ⟨A1,c1,rfl,hc1,ho.mono (by omega),d2⟩
 ·have hR:Hid (Qq l ins= []):=Lib.hid (by unfold Qq;rw[hr];rfl)
  rw[hR.out]
  go_enter Sq.func26, Tryz.ntmps26
  go_wp2_with fail
  refine(Qgb l ins A A' A2 c c' c2 _ (h.below (by(with_reducible repeat first|assumption|exact bl0 _ _|refine blA ?_ _|(refine blS ?_ ?_ _;(simp<;>omega))|refine blD ?_|refine blN ?_ _|refine blF ?_ ‹_›))) (hg.below (by(with_reducible repeat first|assumption|exact bl0 _ _|refine blA ?_ _|(refine blS ?_ ?_ _;(simp<;>omega))|refine blD ?_|refine blN ?_ _|refine blF ?_ ‹_›))) e e' hn1 hn2 (hs.below (by(with_reducible repeat first|assumption|exact bl0 _ _|refine blA ?_ _|(refine blS ?_ ?_ _;(simp<;>omega))|refine blD ?_|refine blN ?_ _|refine blF ?_ ‹_›))) hn3 hr).mono ?_
  rintro e w1 ⟨rfl,hb1⟩
  have d1:Below w.heap.size w w1:=by(with_reducible repeat first|assumption|exact bl0 _ _|refine blA ?_ _|(refine blS ?_ ?_ _;(simp<;>omega))|refine blD ?_|refine blN ?_ _|refine blF ?_ ‹_›)
  clear hb1
  go_wp2
  go_loopw [7,8] (fun v i wr=>v= .slice none 0 0∧i= .int .i64 5∧wr=w1) (fun _ _ _=>0)
  case atStart=>exact⟨rfl,rfl,rfl⟩
  case round=>
   obtain⟨rfl,rfl,rfl⟩:=hrel
   go_wp2
   exact bodyPost_ret (v:= .slice none 0 0) (by simp[results, Tryz.results26,go_sem]) rfl ⟨none,0,rfl,Nat.le_refl _,Own.none_,d1⟩
end Go.Proofs.YtgaimkihacljdaaGreat
