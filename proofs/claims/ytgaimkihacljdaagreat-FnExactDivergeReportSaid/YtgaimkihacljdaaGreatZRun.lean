/- Lemmas: SpecI SpecJ SpecK PRun RunP. -/
import Derived.Test.YtgaimkihacljdaaGreatZDrive
import Derived.Test.YtgaimkihacljdaaGreatZSpec
import Derived.Test.YtgaimkihacljdaaGreatZRepl
/- The reference's hashes and runs. -/
namespace Go.Proofs.YtgaimkihacljdaaGreat
open Go.ChangeShapes Go.WideShapes Go.ChangeAt Go.RowKit
def QN(n:Int):Prop:= -9223372036854775808≤n∧n≤9223372036854775807
theorem Qgl(h n:Int)(w:World)(h0:0≤h)(h1:h≤1000002)(hn:QN n):Calls Sq.prog 72 #[.int .i64 h,.int .i64 n] w fun e w'=>e= .returned (.int .i64 (Jf h n))∧w=w':=by
 obtain⟨n0,n1⟩:=hn
 have e:=Int.tmod_add_mul_tdiv n 1000003
 have b1:=Int.tmod_lt_of_pos n (b:=1000003) (by omega)
 have b2:=Int.lt_tmod_of_pos n (b:=1000003) (by omega)
 have hR:Hid ((8191*h+n.tmod 1000003 % 1000003+1) % 1000003=Jf h n):=Lib.hid (by
  unfold Jf
  have:n.tmod 1000003 % 1000003=n % 1000003:=by omega
  rw[this])
 clear e
 go_enter Sq.func72, Tryz.ntmps72
 go_wp2
 go_ret
 exact⟨QU (by rw[←hR.out]),rfl⟩
theorem QdH(h:Int)(A:Option Addr)(n c:Nat)(l:List Int)(w:World)(hs:Sl w 1 Qe A n l)(hn:(n:Nat)≤9223372036854775807)(h0:0≤h)(h1:h≤1000002)(hl: ∀x∈l,QN x):Calls Sq.prog 48 #[.int .i64 h,.slice A n c] w fun e w'=>e= .returned (.int .i64 (ZU h l))∧w=w':=by
 obtain rfl:=hs.len
 go_enter Sq.func48, Tryz.ntmps48
 go_wp2
 go_loop [0,5] (fun a i=>∃k:Nat,k≤l.length∧i= .int .i64 k∧a= .int .i64 (ZU h (l.take k))) (fun _ i=>l.length - (intOf i).toNat)
 case atStart=>exact⟨0,Nat.zero_le _,rfl,rfl⟩
 case round=>
  obtain⟨k,hk,rfl,rfl⟩:=hrel
  obtain⟨g0,g1⟩:=Qb9 (h:=h) ⟨h0,h1⟩ (l.take k)
  by_cases hlt:k<l.length
  ·obtain⟨b,off,x,rfl,hbl,hx,hc⟩:=hs.at_ hlt
   have q0:=Jg hc
   have hxx:=hl x (List.mem_of_getElem? hx)
   have HT:=Lib.hid (QiB (h:=h) hx)
   clear hx hc hs hl
   generalize ZU h (l.take k)=H at*
   go_wp2_with (go_at_call 72;refine(Qgl _ _ _ g0 g1 hxx).mono ?_;rintro e w1 ⟨rfl,rfl⟩)
   go_round
   case rel=>exact⟨k+1,by omega,by go_num,by rw[HT.out]⟩
   case measure=>simp[intOf];omega
  ·have hkn:l.take k=l:=List.take_of_length_le (by omega)
   have H:=Lib.hid hkn;clear hkn
   go_wp2
   go_ret
   exact⟨QU (by rw[H.out]),rfl⟩
theorem Sl.lit(w:World)(T:TypeId)(cs:Array Value)(l:List Int)(g n:Nat)(hg:w.heap.size=g)(hn:l.length=n)(h:cs.toList=l.flatMap Qe):Sl (w.alloc (.cells cs T)) 1 Qe (some ⟨g,0,none⟩) n l:=by
 subst hg hn
 refine⟨rfl,fun _=>⟨w.heap.size,0,rfl,by simp,fun k x hk j v hv=>?_⟩⟩
 have h1:=JO Qi l k x j v hk hv
 have h2:=(Blk.new w cs T).2 (k*1+j) v (by rw[h];exact h1)
 rw[Nat.zero_add]
 exact h2
def stBd(s:St):Prop:=QN s.t∧QN s.p.x∧QN s.p.y∧QN s.f.x∧QN s.f.y∧QN s.d∧QN s.g
set_option maxRecDepth 100000 in
theorem QqG(s:St)(w:World)(hb:stBd s):Calls Sq.prog 32 #[.agg #[.int .i64 s.t,.int .i64 s.p.x,.int .i64 s.p.y,.int .i64 s.f.x,.int .i64 s.f.y,.int .i64 s.d,.int .i64 s.g,.bool s.dn,.bool s.ov]] w fun e w'=>e= .returned (.int .i64 (XE s))∧Below w.heap.size w w':=by
 obtain⟨t,⟨px,py⟩,⟨ux,uy⟩,d,g,dn,ov⟩:=s
 obtain⟨b1,b2,b3,b4,b5,b6,b7⟩:=hb
 simp only at*
 cases dn
 ·cases ov
  ·have hF:True:=trivial
   go_enter Sq.func32, Tryz.ntmps32
   go_wp2_with fail
   refine(QdH 17 _ 8 8 [t,px,py,ux,uy,d,g,0] _ (Sl.lit _ _ _ _ _ 8 (by simp) rfl (by simp[Qe])) (by omega) (by omega) (by omega) (by intro x hx;simp only[List.mem_cons,List.not_mem_nil,or_false] at hx;rcases hx with rfl|rfl|rfl|rfl|rfl|rfl|rfl|rfl<;>first|assumption|(unfold QN;omega))).mono ?_
   rintro e w1 ⟨rfl,rfl⟩
   go_wp2
   go_ret
   refine⟨rfl,?_⟩;(with_reducible repeat first|exact bl0 _ _|refine blA ?_ _|(refine blS ?_ ?_ _;(simp<;>omega))|refine blD ?_|refine blN ?_ _|refine blF ?_ ‹_›)
  ·have hF:True:=trivial
   go_enter Sq.func32, Tryz.ntmps32
   go_wp2_with fail
   refine(QdH 17 _ 8 8 [t,px,py,ux,uy,d,g,2] _ (Sl.lit _ _ _ _ _ 8 (by simp) rfl (by simp[Qe])) (by omega) (by omega) (by omega) (by intro x hx;simp only[List.mem_cons,List.not_mem_nil,or_false] at hx;rcases hx with rfl|rfl|rfl|rfl|rfl|rfl|rfl|rfl<;>first|assumption|(unfold QN;omega))).mono ?_
   rintro e w1 ⟨rfl,rfl⟩
   go_wp2
   go_ret
   refine⟨rfl,?_⟩;(with_reducible repeat first|exact bl0 _ _|refine blA ?_ _|(refine blS ?_ ?_ _;(simp<;>omega))|refine blD ?_|refine blN ?_ _|refine blF ?_ ‹_›)
 ·cases ov
  ·have hF:True:=trivial
   go_enter Sq.func32, Tryz.ntmps32
   go_wp2_with fail
   refine(QdH 17 _ 8 8 [t,px,py,ux,uy,d,g,1] _ (Sl.lit _ _ _ _ _ 8 (by simp) rfl (by simp[Qe])) (by omega) (by omega) (by omega) (by intro x hx;simp only[List.mem_cons,List.not_mem_nil,or_false] at hx;rcases hx with rfl|rfl|rfl|rfl|rfl|rfl|rfl|rfl<;>first|assumption|(unfold QN;omega))).mono ?_
   rintro e w1 ⟨rfl,rfl⟩
   go_wp2
   go_ret
   refine⟨rfl,?_⟩;(with_reducible repeat first|exact bl0 _ _|refine blA ?_ _|(refine blS ?_ ?_ _;(simp<;>omega))|refine blD ?_|refine blN ?_ _|refine blF ?_ ‹_›)
  ·have hF:True:=trivial
   go_enter Sq.func32, Tryz.ntmps32
   go_wp2_with fail
   refine(QdH 17 _ 8 8 [t,px,py,ux,uy,d,g,3] _ (Sl.lit _ _ _ _ _ 8 (by simp) rfl (by simp[Qe])) (by omega) (by omega) (by omega) (by intro x hx;simp only[List.mem_cons,List.not_mem_nil,or_false] at hx;rcases hx with rfl|rfl|rfl|rfl|rfl|rfl|rfl|rfl<;>first|assumption|(unfold QN;omega))).mono ?_
   rintro e w1 ⟨rfl,rfl⟩
   go_wp2
   go_ret
   refine⟨rfl,?_⟩;(with_reducible repeat first|exact bl0 _ _|refine blA ?_ _|(refine blS ?_ ?_ _;(simp<;>omega))|refine blD ?_|refine blN ?_ _|refine blF ?_ ‹_›)
end Go.Proofs.YtgaimkihacljdaaGreat
/- The reference's runs: l21Ok, l21To, RunScore, RunHashes. -/
namespace Go.Proofs.YtgaimkihacljdaaGreat
open Go.ChangeShapes Go.WideShapes Go.ChangeAt Go.RowKit
structure LevG(l:Lev):Prop where
 st:vOk l.start=true
 w: ∀b∈l.walls,bdBx b
 nw:l.walls.length≤1000000
 ng:l.gates.length≤1000000
 b0:0≤l.bans
 b1:l.bans≤1000
theorem LevG.of_ok{l:Lev}(h:QE l=true):LevG l:=by
 obtain⟨_,_,h3,h4,h5,h6,_,_,h9,_⟩:=XP.1 h
 exact⟨h3,fun b hb=>Qfx (h5 b hb),by omega,by omega,h9.1,by omega⟩
set_option maxRecDepth 100000 in
theorem Jm(l:Lev)(ins:List Inp)(A A' A2:Option Addr)(c c' c2:Nat)(w:World)(h:Sl w 4 Qc A l.walls.length l.walls)(hg:Sl w 4 Qc A' l.gates.length l.gates)(hs:Sl w 3 Qd A2 ins.length ins)
 (hn:(l.walls.length:Nat)≤9223372036854775807)(hn':(l.gates.length:Nat)≤9223372036854775807)(hni:(ins.length:Nat)≤9223372036854775807):Calls Sq.prog 18 #[.agg #[.int .i64 l.id,.int .i64 l.ticks,.int .i64 l.start.x,.int .i64 l.start.y,.slice A l.walls.length c,.slice A' l.gates.length c',.int .i64 l.fin.lo.x,.int .i64 l.fin.lo.y,.int .i64 l.fin.hi.x,.int .i64 l.fin.hi.y,.int .i64 l.bans],.slice A2 ins.length c2] w fun e w'=>e= .returned (.bool (QA l ins))∧Below w.heap.size w w':=by
 cases hL:QE l
 ·have hR:Hid (QA l ins=false):=Lib.hid (by unfold QA;rw[hL];rfl)
  go_enter Sq.func18, Tryz.ntmps18
  go_wp2_with (go_at_call 34;refine(ZH l _ _ _ _ _ (h.below (by(with_reducible repeat first|exact bl0 _ _|refine blA ?_ _|(refine blS ?_ ?_ _;(simp<;>omega))|refine blD ?_|refine blN ?_ _|refine blF ?_ ‹_›))) (hg.below (by(with_reducible repeat first|exact bl0 _ _|refine blA ?_ _|(refine blS ?_ ?_ _;(simp<;>omega))|refine blD ?_|refine blN ?_ _|refine blF ?_ ‹_›))) hn hn').mono ?_;rintro e w1 ⟨rfl,hb1⟩;obtain⟨hc1,hf1⟩:=Qy hb1;have hy1:w.heap.size<w1.heap.size:=(by have:=hb1.size;first|omega|(simp at this;omega)))
  go_ret
  refine⟨Qs hR.out.symm,?_⟩;(with_reducible repeat first|exact bl0 _ _|refine blA ?_ _|(refine blS ?_ ?_ _;(simp<;>omega))|refine blD ?_|refine blN ?_ _|refine blF ?_ ‹_›)
 ·have hR:Hid (QA l ins=decide (QC l ins<0)):=Lib.hid (by unfold QA;rw[hL];rfl)
  have hG:=LevG.of_ok hL
  have g0:=hG.b0
  have g1:=hG.b1
  go_enter Sq.func18, Tryz.ntmps18
  go_wp2_with (first
   |(go_at_call 34;refine(ZH l _ _ _ _ _ (h.below (by(with_reducible repeat first|exact bl0 _ _|refine blA ?_ _|(refine blS ?_ ?_ _;(simp<;>omega))|refine blD ?_|refine blN ?_ _|refine blF ?_ ‹_›))) (hg.below (by(with_reducible repeat first|exact bl0 _ _|refine blA ?_ _|(refine blS ?_ ?_ _;(simp<;>omega))|refine blD ?_|refine blN ?_ _|refine blF ?_ ‹_›))) hn hn').mono ?_;rintro e w1 ⟨rfl,hb1⟩;obtain⟨hc1,hf1⟩:=Qy hb1;have hy1:w.heap.size<w1.heap.size:=(by have:=hb1.size;first|omega|(simp at this;omega)))
   |(go_at_call 35;refine(Qa7 l ins _ _ _ _ _ _ _ (hs.below (by(with_reducible repeat first|exact bl0 _ _|refine blA ?_ _|(refine blS ?_ ?_ _;(simp<;>omega))|refine blD ?_|refine blN ?_ _|refine blF ?_ ‹_›))) hni g0 g1).mono ?_;rintro e w2 ⟨rfl,hb2⟩;obtain⟨hc2,hf2⟩:=Qy hb2;have hy2:w.heap.size<w2.heap.size:=(by have:=hb2.size;first|omega|(simp at this;omega))))
  go_ret
  refine⟨Qs hR.out.symm,?_⟩;(with_reducible repeat first|exact bl0 _ _|refine blA ?_ _|(refine blS ?_ ?_ _;(simp<;>omega))|refine blD ?_|refine blN ?_ _|refine blF ?_ ‹_›)
set_option maxRecDepth 100000 in
set_option maxHeartbeats 1000000 in
theorem Qas(l:Lev)(ins:List Inp)(n:Nat)(A A' A2:Option Addr)(c c' c2:Nat)(w:World)(h:Sl w 4 Qc A l.walls.length l.walls)(hg:Sl w 4 Qc A' l.gates.length l.gates)(hs:Sl w 3 Qd A2 ins.length ins)
 (hL:LevG l)(hn:n≤ins.length)(hn2:ins.length≤100000)(hx: ∀x∈ins, -1≤x.s∧x.s≤1):Calls Sq.prog 33 #[.agg #[.int .i64 l.id,.int .i64 l.ticks,.int .i64 l.start.x,.int .i64 l.start.y,.slice A l.walls.length c,.slice A' l.gates.length c',.int .i64 l.fin.lo.x,.int .i64 l.fin.lo.y,.int .i64 l.fin.hi.x,.int .i64 l.fin.hi.y,.int .i64 l.bans],.slice A2 ins.length c2,.int .i64 n] w fun e w'=>e= .returned (.agg #[.int .i64 (Qg l ins n).t,.int .i64 (Qg l ins n).p.x,.int .i64 (Qg l ins n).p.y,.int .i64 (Qg l ins n).f.x,.int .i64 (Qg l ins n).f.y,.int .i64 (Qg l ins n).d,.int .i64 (Qg l ins n).g,.bool (Qg l ins n).dn,.bool (Qg l ins n).ov])∧Below w.heap.size w w':=by
 go_enter Sq.func33, Tryz.ntmps33
 go_wp2_with fail
 refine(Qjf l _ _ _ _ _).mono ?_
 rintro e w1 ⟨rfl,hb1⟩
 have L1:Bk w1 w.heap.size 42 #[.int .i64 l.id,.int .i64 l.ticks,.int .i64 l.start.x,.int .i64 l.start.y,.slice A l.walls.length c,.slice A' l.gates.length c',.int .i64 l.fin.lo.x,.int .i64 l.fin.lo.y,.int .i64 l.fin.hi.x,.int .i64 l.fin.hi.y,.int .i64 l.bans]:=by(repeat first|(with_reducible first|assumption|exact kN _ _ _ (by simp)|refine kA ?_ _|refine kD ?_|refine kW ?_ _|apply Bk.set'|refine kF ?_ (by simp<;>omega) _|refine kL ?_ ‹_›|refine kG ?_ ‹_› (by first|omega|simp<;>omega))|exact⟨by with_reducible rfl⟩|exact⟨by simp⟩)
 have R1:Bk w1 (w.heap.size+1) 72 #[.int .i64 0,.int .i64 0,.int .i64 0,.int .i64 0,.int .i64 0,.int .i64 0,.int .i64 0,.bool false,.bool false]:=by(repeat first|(with_reducible first|assumption|exact kN _ _ _ (by simp)|refine kA ?_ _|refine kD ?_|refine kW ?_ _|apply Bk.set'|refine kF ?_ (by simp<;>omega) _|refine kL ?_ ‹_›|refine kG ?_ ‹_› (by first|omega|simp<;>omega))|exact⟨by with_reducible rfl⟩|exact⟨by simp⟩)
 have hd1:Below w.heap.size w w1:=by(with_reducible repeat first|exact bl0 _ _|refine blA ?_ _|(refine blS ?_ ?_ _;(simp<;>omega))|refine blD ?_|refine blN ?_ _|refine blF ?_ ‹_›)
 clear hb1
 have zL:=L1.lt
 have zR:=R1.lt
 go_wp2
 go_loopw [8] (fun i wr=>∃k:Nat,k≤n∧i= .int .i64 k∧Bk wr w.heap.size 42 #[.int .i64 l.id,.int .i64 l.ticks,.int .i64 l.start.x,.int .i64 l.start.y,.slice A l.walls.length c,.slice A' l.gates.length c',.int .i64 l.fin.lo.x,.int .i64 l.fin.lo.y,.int .i64 l.fin.hi.x,.int .i64 l.fin.hi.y,.int .i64 l.bans]∧Bk wr (w.heap.size+1) 72 #[.int .i64 0,.int .i64 0,.int .i64 0,.int .i64 0,.int .i64 0,.int .i64 0,.int .i64 0,.bool false,.bool false]∧Bk wr w1.heap.size 72 #[.int .i64 (Qg l ins k).t,.int .i64 (Qg l ins k).p.x,.int .i64 (Qg l ins k).p.y,.int .i64 (Qg l ins k).f.x,.int .i64 (Qg l ins k).f.y,.int .i64 (Qg l ins k).d,.int .i64 (Qg l ins k).g,.bool (Qg l ins k).dn,.bool (Qg l ins k).ov]∧Below w.heap.size w wr) (fun i _=>n - (intOf i).toNat)
 case atStart=>exact⟨0,Nat.zero_le _,rfl,L1.alloc _,R1.alloc _,Bk.new _ _ _ rfl,by(with_reducible repeat first|exact bl0 _ _|refine blA ?_ _|(refine blS ?_ ?_ _;(simp<;>omega))|refine blD ?_|refine blN ?_ _|refine blF ?_ ‹_›)⟩
 case round=>
  obtain⟨k,hk,rfl,hB,hR,hS,hb⟩:=hrel
  clear L1 R1
  have z1:=hB.lt
  have z2:=hR.lt
  have z3:=hS.lt
  by_cases hlt:k<n
  ·obtain⟨b,off,x,rfl,hbl,hxk,hc⟩:=(hs.below hb).at_ (k:=k) (by omega)
   have q0:wr.cell? ⟨b,off+k*3,none⟩=some (.int .i64 x.s):=hc 0 _ rfl
   have q1:wr.cell? ⟨b,off+k*3+1,none⟩=some (.int .i64 x.p):=hc 1 _ rfl
   have q2:wr.cell? ⟨b,off+k*3+2,none⟩=some (.bool x.z):=hc 2 _ rfl
   have hxx:=hx x (List.mem_of_getElem? hxk)
   have HT:=Lib.hid (Qbd (l:=l) hxk)
   have hok:=Qav (l:=l) ins k hL.st
   obtain⟨ht0,ht1⟩:=Qaa l ins k (by omega)
   have ht2:(Qg l ins k).t≤1000000:=by omega
   have hw:=hL.w
   have hng:=hL.ng
   have hnw:l.walls.length≤9223372036854775807:=by have:=hL.nw;omega
   clear ht1 hxk hc hx hL
   generalize Qg l ins k=s at*
   obtain⟨⟨l0,l1,l2,l3,l4,l5,l6,l7,l8,l9,l10⟩,lf⟩:=hB.c11
   obtain⟨⟨s0,s1,s2,s3,s4,s5,s6,s7,s8⟩,sf⟩:=hS.c9
   have hltI:(k:Int)<(n:Int):=by omega
   have hkI:(k:Int)<(ins.length:Int):=by omega
   go_wp2
   go_still_tail 6,(by kernel_rfl)
   change wpList _ _ _ _ _ wr.drew
   go_wp2_with fail
   refine(QdG l s x _ _ _ _ _ (h.below (by(with_reducible repeat first|exact bl0 _ _|refine blA ?_ _|(refine blS ?_ ?_ _;(simp<;>omega))|refine blD ?_|refine blN ?_ _|refine blF ?_ ‹_›))) (hg.below (by(with_reducible repeat first|exact bl0 _ _|refine blA ?_ _|(refine blS ?_ ?_ _;(simp<;>omega))|refine blD ?_|refine blN ?_ _|refine blF ?_ ‹_›))) hnw hw hok hng ht0 ht2 hxx).mono ?_
   rw[←HT.out]
   generalize hS9:Qg l ins (k+1)=s' at*
   rintro e w2 ⟨rfl,hb2⟩
   have hB2:Bk w2 w.heap.size 42 #[.int .i64 l.id,.int .i64 l.ticks,.int .i64 l.start.x,.int .i64 l.start.y,.slice A l.walls.length c,.slice A' l.gates.length c',.int .i64 l.fin.lo.x,.int .i64 l.fin.lo.y,.int .i64 l.fin.hi.x,.int .i64 l.fin.hi.y,.int .i64 l.bans]:=by(repeat first|(with_reducible first|assumption|exact kN _ _ _ (by simp)|refine kA ?_ _|refine kD ?_|refine kW ?_ _|apply Bk.set'|refine kF ?_ (by simp<;>omega) _|refine kL ?_ ‹_›|refine kG ?_ ‹_› (by first|omega|simp<;>omega))|exact⟨by with_reducible rfl⟩|exact⟨by simp⟩)
   have hR2:Bk w2 (w.heap.size+1) 72 #[.int .i64 0,.int .i64 0,.int .i64 0,.int .i64 0,.int .i64 0,.int .i64 0,.int .i64 0,.bool false,.bool false]:=by(repeat first|(with_reducible first|assumption|exact kN _ _ _ (by simp)|refine kA ?_ _|refine kD ?_|refine kW ?_ _|apply Bk.set'|refine kF ?_ (by simp<;>omega) _|refine kL ?_ ‹_›|refine kG ?_ ‹_› (by first|omega|simp<;>omega))|exact⟨by with_reducible rfl⟩|exact⟨by simp⟩)
   have hS2:Bk w2 w1.heap.size 72 #[.int .i64 s.t,.int .i64 s.p.x,.int .i64 s.p.y,.int .i64 s.f.x,.int .i64 s.f.y,.int .i64 s.d,.int .i64 s.g,.bool s.dn,.bool s.ov]:=by(repeat first|(with_reducible first|assumption|exact kN _ _ _ (by simp)|refine kA ?_ _|refine kD ?_|refine kW ?_ _|apply Bk.set'|refine kF ?_ (by simp<;>omega) _|refine kL ?_ ‹_›|refine kG ?_ ‹_› (by first|omega|simp<;>omega))|exact⟨by with_reducible rfl⟩|exact⟨by simp⟩)
   have hd2:Below w.heap.size w w2:=by(with_reducible repeat first|exact bl0 _ _|refine blA ?_ _|(refine blS ?_ ?_ _;(simp<;>omega))|refine blD ?_|refine blN ?_ _|refine blF ?_ ‹_›)
   have HS9:=Lib.hid hS9
   clear hb2 hb hB hR hS z1 z2 z3 l0 l1 l2 l3 l4 l5 l6 l7 l8 l9 l10 lf s0 s1 s2 s3 s4 s5 s6 s7 s8 sf q0 q1 q2 hS9
   obtain⟨⟨s0,s1,s2,s3,s4,s5,s6,s7,s8⟩,sf⟩:=hS2.c9
   go_wp2
   case roundEnd=>
    go_roundw
    case rel=>exact⟨k+1,by omega,by go_num,by(repeat first|(with_reducible first|assumption|exact kN _ _ _ (by simp)|refine kA ?_ _|refine kD ?_|refine kW ?_ _|apply Bk.set'|refine kF ?_ (by simp<;>omega) _|refine kL ?_ ‹_›|refine kG ?_ ‹_› (by first|omega|simp<;>omega))|exact⟨by with_reducible rfl⟩|exact⟨by simp⟩),by(repeat first|(with_reducible first|assumption|exact kN _ _ _ (by simp)|refine kA ?_ _|refine kD ?_|refine kW ?_ _|apply Bk.set'|refine kF ?_ (by simp<;>omega) _|refine kL ?_ ‹_›|refine kG ?_ ‹_› (by first|omega|simp<;>omega))|exact⟨by with_reducible rfl⟩|exact⟨by simp⟩),by rw[HS9.out];(repeat first|(with_reducible first|assumption|exact kN _ _ _ (by simp)|refine kA ?_ _|refine kD ?_|refine kW ?_ _|apply Bk.set'|refine kF ?_ (by simp<;>omega) _|refine kL ?_ ‹_›|refine kG ?_ ‹_› (by first|omega|simp<;>omega))|exact⟨by with_reducible rfl⟩|exact⟨by simp⟩),by(with_reducible repeat first|exact bl0 _ _|refine blA ?_ _|(refine blS ?_ ?_ _;(simp<;>omega))|refine blD ?_|refine blN ?_ _|refine blF ?_ ‹_›)⟩
    case measure=>simp[intOf];omega
  ·have hke:k=n:=by omega
   subst hke
   generalize hS9:Qg l ins k=s at*
   have HS9:=Lib.hid hS9
   clear hS9
   obtain⟨⟨s0,s1,s2,s3,s4,s5,s6,s7,s8⟩,sf⟩:=hS.c9
   obtain⟨⟨r0,r1,r2,r3,r4,r5,r6,r7,r8⟩,rf⟩:=hR.c9
   have zz:w.heap.size+1≠w1.heap.size:=by omega
   clear h hg hs hx hL
   go_wp2
   refine bodyPost_ret (v:= .agg #[.int .i64 s.t,.int .i64 s.p.x,.int .i64 s.p.y,.int .i64 s.f.x,.int .i64 s.f.y,.int .i64 s.d,.int .i64 s.g,.bool s.dn,.bool s.ov]) (by simp[results, Tryz.results33,go_sem, *]) rfl ⟨by rw[HS9.out],?_⟩;(with_reducible repeat first|exact bl0 _ _|refine blA ?_ _|(refine blS ?_ ?_ _;(simp<;>omega))|refine blD ?_|refine blN ?_ _|refine blF ?_ ‹_›)
theorem Qgo{l:Lev}{ins:List Inp}(h:QC l ins<0): ∀x∈ins,QT x=true:=by
 rcases QeI l ins with⟨_,h1⟩|⟨k,_,h2,_⟩
 ·intro x hx
  obtain⟨k,hk⟩:=List.getElem?_of_mem hx
  have hb:=h1 k (List.getElem?_eq_some_iff.1 hk).1
  rw[Qdq hk] at hb
  simp only[Bool.or_eq_false_iff,Bool.not_eq_false'] at hb
  exact Qb4 hb.2.2
 ·rw[h2] at h;omega
theorem QdL{l:Lev}{ins:List Inp}(h:QC l ins<0)(ht:l.ticks≤60)(h0:0≤l.ticks):ins.length≤60∧(ins.length:Int)≤l.ticks:=by
 rcases QeI l ins with⟨_,h1⟩|⟨k,_,h2,_⟩
 ·cases hl:ins.length with
  |zero=>omega
  |succ n=>
   have hx:ins[n]? =some (ins[n]'(by omega)):=List.getElem?_eq_getElem _
   have hb:=h1 n (by omega)
   rw[Qdq hx] at hb
   simp only[Bool.or_eq_false_iff,decide_eq_false_iff_not] at hb
   omega
 ·rw[h2] at h;omega
theorem J9{l:Lev}{ins:List Inp}:QA l ins=true↔QE l=true∧QC l ins<0:=by simp[QA]
theorem Zp{l:Lev}{ins:List Inp}(h:QA l ins=true):LevG l∧ins.length≤60∧(ins.length:Int)≤l.ticks∧(∀x∈ins,QT x=true)∧(∀x∈ins, -1≤x.s∧x.s≤1):=by
 obtain⟨h1,h2⟩:=J9.1 h
 obtain⟨_,hT,_⟩:=XP.1 h1
 obtain⟨h3,h4⟩:=QdL h2 (by omega) (by omega)
 have h5:=Qgo h2
 exact⟨LevG.of_ok h1,h3,h4,h5,fun x hx=>QbC (h5 x hx)⟩
end Go.Proofs.YtgaimkihacljdaaGreat
/- The reference's RunHashes. -/
namespace Go.Proofs.YtgaimkihacljdaaGreat
open Go.ChangeShapes Go.WideShapes Go.ChangeAt Go.RowKit
theorem Qt3{l:Lev}{s:St}(h:sOk l s)(hl:l.gates.length≤1000000)(t0:0≤s.t)(t1:s.t≤1000000):stBd s:=by
 have hp:=ZO.1 h.p
 have hf:=JN h.f
 have h0:=h.d0
 have h1:=h.d1
 have h2:=h.g0
 have h3:=h.g1
 unfold stBd QN
 omega
theorem Qkx{l:Lev}{ins:List Inp}(hL:LevG l)(n:Nat)(hn:n≤ins.length)(h:ins.length≤100000):stBd (Qg l ins n):=by
 obtain⟨a,b⟩:=Qaa l ins n hn
 exact Qt3 (Qav ins n hL.st) hL.ng a (by omega)
theorem Qcv(w:World)(B N:Nat)(T:TypeId)(hB:B≤w.heap.size)(hN:w.heap.size=N):Own (w.alloc (.cells #[] T)) B T 1 Qe (.slice (some ⟨N,0,none⟩) 0 0) []:=hN ▸ Own.nil_lit w B T hB
set_option maxRecDepth 100000 in
set_option maxHeartbeats 1000000 in
theorem JJ(l:Lev)(ins:List Inp)(A A' A2:Option Addr)(c c' c2:Nat)(w:World)(h:Sl w 4 Qc A l.walls.length l.walls)(hg:Sl w 4 Qc A' l.gates.length l.gates)(hs:Sl w 3 Qd A2 ins.length ins)
 (hn:(l.walls.length:Nat)≤9223372036854775807)(hn':(l.gates.length:Nat)≤9223372036854775807)(hni:ins.length≤9000000000000000000):Calls Sq.prog 17 #[.agg #[.int .i64 l.id,.int .i64 l.ticks,.int .i64 l.start.x,.int .i64 l.start.y,.slice A l.walls.length c,.slice A' l.gates.length c',.int .i64 l.fin.lo.x,.int .i64 l.fin.lo.y,.int .i64 l.fin.hi.x,.int .i64 l.fin.hi.y,.int .i64 l.bans],.slice A2 ins.length c2] w (XM 3 1 Qe (Qq l ins) w):=by
 cases hok:QA l ins
 ·have hR:Hid (Qq l ins= []):=Lib.hid (by unfold Qq;rw[hok];rfl)
  rw[hR.out]
  go_enter Sq.func17, Tryz.ntmps17
  go_wp2
  go_loopw [5,6] (fun v i wr=>i= .int .i64 5∧Own wr w.heap.size 3 1 Qe v []∧v= .slice (some ⟨w.heap.size+1,0,none⟩) 0 0∧Bk wr w.heap.size 42 #[.int .i64 l.id,.int .i64 l.ticks,.int .i64 l.start.x,.int .i64 l.start.y,.slice A l.walls.length c,.slice A' l.gates.length c',.int .i64 l.fin.lo.x,.int .i64 l.fin.lo.y,.int .i64 l.fin.hi.x,.int .i64 l.fin.hi.y,.int .i64 l.bans]∧Below w.heap.size w wr) (fun _ i _=>0)
  case atStart=>exact⟨rfl,Qcv _ _ _ _ (by simp) (by simp),rfl,by(repeat first|(with_reducible first|assumption|exact kN _ _ _ (by simp)|refine kA ?_ _|refine kD ?_|refine kW ?_ _|apply Bk.set'|refine kF ?_ (by simp<;>omega) _|refine kL ?_ ‹_›|refine kG ?_ ‹_› (by first|omega|simp<;>omega))|exact⟨by with_reducible rfl⟩|exact⟨by simp⟩),by(with_reducible repeat first|exact bl0 _ _|refine blA ?_ _|(refine blS ?_ ?_ _;(simp<;>omega))|refine blD ?_|refine blN ?_ _|refine blF ?_ ‹_›)⟩
  case round=>
   obtain⟨rfl,ho,rfl,hB,hb⟩:=hrel
   obtain⟨⟨l0,l1,l2,l3,l4,l5,l6,l7,l8,l9,l10⟩,lf⟩:=hB.c11
   by_cases h5:5≤(ins.length:Int)
   ·go_wp2_with fail
    refine(Jm l ins _ _ _ _ _ _ _ (h.below (by(with_reducible repeat first|exact bl0 _ _|refine blA ?_ _|(refine blS ?_ ?_ _;(simp<;>omega))|refine blD ?_|refine blN ?_ _|refine blF ?_ ‹_›))) (hg.below (by(with_reducible repeat first|exact bl0 _ _|refine blA ?_ _|(refine blS ?_ ?_ _;(simp<;>omega))|refine blD ?_|refine blN ?_ _|refine blF ?_ ‹_›))) (hs.below (by(with_reducible repeat first|exact bl0 _ _|refine blA ?_ _|(refine blS ?_ ?_ _;(simp<;>omega))|refine blD ?_|refine blN ?_ _|refine blF ?_ ‹_›))) hn hn' (by omega)).mono ?_
    rintro e w1 ⟨rfl,hb1⟩
    have ho1:=ho.later hb1
    go_wp2
    exact bodyPost_ret (v:= .slice (some ⟨w.heap.size+1,0,none⟩) 0 0) (by simp[results, Tryz.results17,go_sem]) rfl ⟨some ⟨w.heap.size+1,0,none⟩,0,rfl,Nat.le_refl _,ho1,by(with_reducible repeat first|exact bl0 _ _|refine blA ?_ _|(refine blS ?_ ?_ _;(simp<;>omega))|refine blD ?_|refine blN ?_ _|refine blF ?_ ‹_›)⟩
   ·go_wp2
    exact bodyPost_ret (v:= .slice (some ⟨w.heap.size+1,0,none⟩) 0 0) (by simp[results, Tryz.results17,go_sem]) rfl ⟨some ⟨w.heap.size+1,0,none⟩,0,rfl,Nat.le_refl _,ho,by(with_reducible repeat first|exact bl0 _ _|refine blA ?_ _|(refine blS ?_ ?_ _;(simp<;>omega))|refine blD ?_|refine blN ?_ _|refine blF ?_ ‹_›)⟩
 ·obtain⟨hL,hl60,_,_,hx⟩:=Zp hok
  have hR:Hid (Qq l ins=Xs l ins (ins.length/5)):=Lib.hid (by unfold Qq;rw[hok];rfl)
  rw[hR.out]
  have Hok:=Lib.hid hok
  clear hok
  obtain⟨i0,hi,hz0,hz1,hz2⟩:=info_parts Sq.infoInt
  go_enter Sq.func17, Tryz.ntmps17
  go_wp2
  go_loopw [5,6] (fun v i wr=>∃k m:Nat,m=5*(k+1)∧5*k≤ins.length∧i= .int .i64 m∧Own wr (w.heap.size+1) 3 1 Qe v (Xs l ins k)∧Bk wr w.heap.size 42 #[.int .i64 l.id,.int .i64 l.ticks,.int .i64 l.start.x,.int .i64 l.start.y,.slice A l.walls.length c,.slice A' l.gates.length c',.int .i64 l.fin.lo.x,.int .i64 l.fin.lo.y,.int .i64 l.fin.hi.x,.int .i64 l.fin.hi.y,.int .i64 l.bans]∧Below w.heap.size w wr) (fun _ i _=>ins.length+5 - (intOf i).toNat)
  case atStart=>exact⟨0,5,rfl,by omega,rfl,Qcv _ _ _ _ (by simp) (by simp),by(repeat first|(with_reducible first|assumption|exact kN _ _ _ (by simp)|refine kA ?_ _|refine kD ?_|refine kW ?_ _|apply Bk.set'|refine kF ?_ (by simp<;>omega) _|refine kL ?_ ‹_›|refine kG ?_ ‹_› (by first|omega|simp<;>omega))|exact⟨by with_reducible rfl⟩|exact⟨by simp⟩),by(with_reducible repeat first|exact bl0 _ _|refine blA ?_ _|(refine blS ?_ ?_ _;(simp<;>omega))|refine blD ?_|refine blN ?_ _|refine blF ?_ ‹_›)⟩
  case round=>
   obtain⟨k,m,hm,hk5,rfl,ho,hB,hb⟩:=hrel
   have Hm:=Lib.hid hm
   have hkl:(Xs l ins k).length≤60:=by rw[Qca];omega
   obtain⟨⟨l0,l1,l2,l3,l4,l5,l6,l7,l8,l9,l10⟩,lf⟩:=hB.c11
   by_cases h5:(m:Int)≤(ins.length:Int)
   ·have hml:m≤ins.length:=by omega
    have HS:=Lib.hid (QiE l ins k)
    have hst:=Qkx (ins:=ins) hL m hml (by omega)
    clear hm
    go_wp2_with fail
    refine(Jm l ins _ _ _ _ _ _ _ (h.below (by(with_reducible repeat first|exact bl0 _ _|refine blA ?_ _|(refine blS ?_ ?_ _;(simp<;>omega))|refine blD ?_|refine blN ?_ _|refine blF ?_ ‹_›))) (hg.below (by(with_reducible repeat first|exact bl0 _ _|refine blA ?_ _|(refine blS ?_ ?_ _;(simp<;>omega))|refine blD ?_|refine blN ?_ _|refine blF ?_ ‹_›))) (hs.below (by(with_reducible repeat first|exact bl0 _ _|refine blA ?_ _|(refine blS ?_ ?_ _;(simp<;>omega))|refine blD ?_|refine blN ?_ _|refine blF ?_ ‹_›))) hn hn' (by omega)).mono ?_
    rw[Hok.out]
    rintro e w1 ⟨rfl,hb1⟩
    have hB1:=hB.later hb1
    have ho1:=ho.later hb1
    have hd1:Below w.heap.size w w1:=by(with_reducible repeat first|exact bl0 _ _|refine blA ?_ _|(refine blS ?_ ?_ _;(simp<;>omega))|refine blD ?_|refine blN ?_ _|refine blF ?_ ‹_›)
    clear hb1 hB ho hb l0 l1 l2 l3 l4 l5 l6 l7 l8 l9 l10 lf
    obtain⟨⟨l0,l1,l2,l3,l4,l5,l6,l7,l8,l9,l10⟩,lf⟩:=hB1.c11
    go_wp2_with fail
    refine(Qas l ins m _ _ _ _ _ _ _ (h.below (by(with_reducible repeat first|exact bl0 _ _|refine blA ?_ _|(refine blS ?_ ?_ _;(simp<;>omega))|refine blD ?_|refine blN ?_ _|refine blF ?_ ‹_›))) (hg.below (by(with_reducible repeat first|exact bl0 _ _|refine blA ?_ _|(refine blS ?_ ?_ _;(simp<;>omega))|refine blD ?_|refine blN ?_ _|refine blF ?_ ‹_›))) (hs.below (by(with_reducible repeat first|exact bl0 _ _|refine blA ?_ _|(refine blS ?_ ?_ _;(simp<;>omega))|refine blD ?_|refine blN ?_ _|refine blF ?_ ‹_›))) hL hml (by omega) hx).mono ?_
    rintro e w2 ⟨rfl,hb2⟩
    have hB2:=hB1.later hb2
    have ho2:=ho1.later hb2
    have hd2:Below w.heap.size w w2:=by(with_reducible repeat first|exact bl0 _ _|refine blA ?_ _|(refine blS ?_ ?_ _;(simp<;>omega))|refine blD ?_|refine blN ?_ _|refine blF ?_ ‹_›)
    clear hb2 hB1 ho1 hd1 l0 l1 l2 l3 l4 l5 l6 l7 l8 l9 l10 lf
    go_wp2_with fail
    refine(QqG _ _ hst).mono ?_
    rintro e w3 ⟨rfl,hb3⟩
    have hB3:=hB2.later hb3
    have ho3:=ho2.later hb3
    have hd3:Below w.heap.size w w3:=by(with_reducible repeat first|exact bl0 _ _|refine blA ?_ _|(refine blS ?_ ?_ _;(simp<;>omega))|refine blD ?_|refine blN ?_ _|refine blF ?_ ‹_›)
    clear hb3 hB2 ho2 hd2
    have hx3:=hB3.lt
    have hgt:=ho3.lt
    go_wp2_with (at_builtin;refine Xp rfl _ _ 30 rfl (w.heap.size+1) 3 i0 (.int .i64 0) 1 8 (Sq.und Tryz.underlying30) hi hz0 hz1 hz2 rfl (by decide) Qi JH _ _ [XE (Qg l ins m)] rfl (ho3.alloc _) _ 1 1 rfl (Sl.one _ (XE (Qg l ins m)) _ _ rfl) (by intro e;cases e) (by unfold maxLen;omega) (by omega) (by simp;omega) ?_;intro v' w4 ho4 hg4)
    case roundEnd=>
     have hg5:(w3.alloc (.cells #[.int .i64 (XE (Qg l ins m))] 3)).grownBy w4 u5.ownBlock:=hg4
     have hB4:Bk w4 w.heap.size 42 #[.int .i64 l.id,.int .i64 l.ticks,.int .i64 l.start.x,.int .i64 l.start.y,.slice A l.walls.length c,.slice A' l.gates.length c',.int .i64 l.fin.lo.x,.int .i64 l.fin.lo.y,.int .i64 l.fin.hi.x,.int .i64 l.fin.hi.y,.int .i64 l.bans]:=(hB3.alloc _).grown hg5 (by intro e;have:=(hgt _ e.symm).1;omega)
     have hd4:Below w.heap.size w w4:=(Qf hd3 _).grown hg5 (by simp;omega) (by intro g e;have:=(hgt _ e).1;omega)
     have HS2:Xs l ins (k+1)=Xs l ins k++ [XE (Qg l ins m)]:=by rw[Hm.out];exact HS.out
     rw[←HS2] at ho4
     go_roundw
     case rel=>exact⟨k+1,m+5,by have:=Hm.out;omega,by have:=Hm.out;omega,by go_num,ho4,hB4,hd4⟩
     case measure=>simp[intOf];omega
   ·have hk:k=ins.length/5:=by omega
    obtain⟨A1,c1,rfl,hc1,_⟩:=ho.form
    subst hk
    have hlen:=Qca l ins (ins.length/5)
    clear h hg hs
    go_wp2
    exact bodyPost_ret (v:= .slice A1 (Xs l ins (ins.length/5)).length c1) (by simp[results, Tryz.results17,go_sem,hlen]) rfl ⟨A1,c1,rfl,hc1,ho.mono (by omega),hb⟩
end Go.Proofs.YtgaimkihacljdaaGreat
/- Runs and replays: the plain laws. No program is named here. -/
namespace Go.Proofs.YtgaimkihacljdaaGreat
open Go.RowKit
end Go.Proofs.YtgaimkihacljdaaGreat
/- Plain laws of runs: prefixes, ends, gates, pauses. No program is named here. (Round B) -/
namespace Go.Proofs.YtgaimkihacljdaaGreat
open Go.RowKit
end Go.Proofs.YtgaimkihacljdaaGreat
