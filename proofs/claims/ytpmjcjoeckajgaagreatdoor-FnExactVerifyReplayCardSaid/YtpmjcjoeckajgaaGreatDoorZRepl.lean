/- Lemmas: RepL Rdr. -/
import Derived.Test.YtpmjcjoeckajgaaGreatDoorZBase
import Derived.Deep.DeepMust
import Derived.Laws.BitsAllLaws
/- ReplayList: the reference's and the program's, each by its contract. -/
namespace Go.Proofs.YtpmjcjoeckajgaaGreatDoor
open Go.ChangeShapes Go.WideShapes Go.ChangeAt Go.RowKit
def Jn(r:Rep):List Int:=[r.lv,r.pl,r.sc,(r.ins.length:Int)]
def QK(r:Rep):List Int:=Jn r++r.ins.map code++r.hs
theorem QbI{r:Rep}(h:QL r=true):(∀x∈r.ins,QT x=true)∧r.ins.length≤60∧r.hs.length=r.ins.length/5:=by
 simp only[QL,Bool.and_eq_true,lenB,decide_eq_true_eq] at h
 obtain⟨_,_,_,h4,h5,_⟩:=h
 exact⟨(Ja.1 h4).1,(Ja.1 h4).2,h5⟩
theorem QiF(w:World)(B N:Nat)(a b c d:Int)(hB:B≤w.heap.size)(hN:w.heap.size=N):Own (w.alloc (.cells #[.int .i64 a,.int .i64 b,.int .i64 c,.int .i64 d] 3)) B 3 1 Qe (.slice (some ⟨N,0,none⟩) 4 4) [a,b,c,d]:=by
 subst hN
 exact World.ownsRow_lit (base:=B) (size:=1) w #[.int .i64 a,.int .i64 b,.int .i64 c,.int .i64 d] 4 hB (by decide) rfl
theorem QlJ{l:List Inp}{k:Nat}{x:Inp}(hx:l[k]? =some x):(l.take (k+1)).map code=(l.take k).map code++ [code x]:=by
 rw[List.take_add_one,hx,List.map_append];rfl
set_option maxRecDepth 100000 in
theorem Qc7(A A':Option Addr)(c c':Nat)(r:Rep)(w:World)(hr:QL r=true)(h:Sl w 3 Qd A r.ins.length r.ins)(h':Sl w 1 Qe A' r.hs.length r.hs)(hA':A'=none→c'=0):
 Calls Sq.prog 40 #[.agg #[.int .i64 r.lv,.int .i64 r.pl,.int .i64 r.sc,.slice A r.ins.length c,.slice A' r.hs.length c',.int .i64 r.tag]] w (XM 3 1 Qe (QK r) w):=by
 obtain⟨hv,hn,hh⟩:=QbI hr
 have Hh:=Lib.hid hh
 have hn':r.hs.length≤12:=by omega
 clear hh
 obtain⟨i0,hi,hz0,hz1,hz2⟩:=info_parts Sq.infoInt
 have hB0:=Blk.new w #[.int .i64 r.lv,.int .i64 r.pl,.int .i64 r.sc,.slice A r.ins.length c,.slice A' r.hs.length c',.int .i64 r.tag] 33
 have hO0:=QiF (w.alloc (.cells #[.int .i64 r.lv,.int .i64 r.pl,.int .i64 r.sc,.slice A r.ins.length c,.slice A' r.hs.length c',.int .i64 r.tag] 33)) (w.heap.size+1) (w.heap.size+1) r.lv r.pl r.sc r.ins.length (by simp) (by simp)
 have hB1:=hB0.alloc (.cells #[.int .i64 r.lv,.int .i64 r.pl,.int .i64 r.sc,.int .i64 r.ins.length] 3)
 have hd1:=Qf (Qf (Below.refl w.heap.size w) (.cells #[.int .i64 r.lv,.int .i64 r.pl,.int .i64 r.sc,.slice A r.ins.length c,.slice A' r.hs.length c',.int .i64 r.tag] 33)) (.cells #[.int .i64 r.lv,.int .i64 r.pl,.int .i64 r.sc,.int .i64 r.ins.length] 3)
 go_enter Sq.func40, Tryz.ntmps40
 go_wp2
 go_loopw [3,4] (fun v i wr=>∃k:Nat,k≤r.ins.length∧i= .int .i64 k∧Own wr (w.heap.size+1) 3 1 Qe v (Jn r++(r.ins.take k).map code)∧Blk wr w.heap.size [.int .i64 r.lv,.int .i64 r.pl,.int .i64 r.sc,.slice A r.ins.length c,.slice A' r.hs.length c',.int .i64 r.tag]∧Below w.heap.size w wr) (fun _ i _=>r.ins.length - (intOf i).toNat)
 case atStart=>exact⟨0,Nat.zero_le _,rfl,by rw[List.take_zero,List.map_nil,List.append_nil];exact hO0,hB1,hd1⟩
 case round=>
  obtain⟨k,hk,rfl,ho,hB,hb⟩:=hrel
  clear hO0 hB1 hd1 hB0
  obtain⟨x0,x1,x2,x3,x4,x5⟩:=hB.c6
  have hzz:=hB.1
  have hL:(Jn r++(r.ins.take k).map code).length≤64:=by simp[Jn];omega
  by_cases hlt:k<r.ins.length
  ·obtain⟨b,off,x,rfl,hbl,hx,hc⟩:=(h.below hb).at_ hlt
   have q0:wr.cell? ⟨b,off+k*3,none⟩=some (.int .i64 x.s):=hc 0 _ rfl
   have q1:wr.cell? ⟨b,off+k*3+1,none⟩=some (.int .i64 x.p):=hc 1 _ rfl
   have q2:wr.cell? ⟨b,off+k*3+2,none⟩=some (.bool x.z):=hc 2 _ rfl
   have hxv:=hv x (List.mem_of_getElem? hx)
   have Hxv:=Lib.hid hxv
   have Hx:=Lib.hid hx
   clear hx hc hxv hv hr h h'
   go_wp2_with (first
    |(go_at_call 90;refine(Qgi x _ Hxv.out).mono ?_;rintro e w1 ⟨rfl,hb1⟩)
    |(at_builtin;refine Xp rfl _ _ 31 rfl (w.heap.size+1) 3 i0 (.int .i64 0) 1 8 (Sq.und Tryz.underlying31) hi hz0 hz1 hz2 rfl (by decide) Qi JH _ _ [code x] rfl ((ho.later hb1).alloc _) _ 1 1 rfl (Sl.one _ (code x) _ _ rfl) (by intro e;cases e) (by unfold maxLen;omega) (by omega) (by have:=hb1.size;simp;omega) ?_;intro v' w2 ho2 hg2))
   case roundEnd=>
    have hg3:(w1.alloc (.cells #[.int .i64 (code x)] 3)).grownBy w2 u3.ownBlock:=hg2
    have hrow:=(ho.later hb1).lt
    have hBl:=((hB.later hb1).alloc (.cells #[.int .i64 (code x)] 3)).grown hg3 (by intro e;have:=(hrow _ e).1;omega)
    have hbl2:Below w.heap.size w w2:=((hb.trans (hb1.mono (by omega))).alloc (Nat.le_trans hb.size hb1.size) _).grown hg3 (by have:=hb.size;have:=hb1.size;simp;omega) (fun g e=>by have:=(hrow _ e).1;omega)
    go_roundw
    case rel=>exact⟨k+1,by omega,by go_num,by rw[QlJ Hx.out,←List.append_assoc];exact ho2,hBl,hbl2⟩
    case measure=>simp[intOf];omega
  ·have hs':=h'.below hb
   have hke:k=r.ins.length:=by omega
   clear h h' hr hv
   go_wp2_with (at_builtin;refine Xp rfl _ _ 31 rfl (w.heap.size+1) 3 i0 (.int .i64 0) 1 8 (Sq.und Tryz.underlying31) hi hz0 hz1 hz2 rfl (by decide) Qi JH _ _ r.hs rfl ho _ _ _ rfl hs' hA' (by unfold maxLen;omega) (by omega) (by omega) ?_;intro v' w2 ho2 hg2)
   obtain⟨A1,c1,rfl,hc1,_⟩:=ho2.form
   have hg3:wr.grownBy w2 u3.ownBlock:=hg2
   have hrow:=ho.lt
   have hbl2:Below w.heap.size w w2:=hb.grown hg3 hb.size (fun g e=>by have:=(hrow _ e).1;omega)
   have hlst:Jn r++List.map code (List.take k r.ins)++r.hs=QK r:=by rw[hke,List.take_length];rfl
   rw[hlst] at ho2 hc1
   have hlen:(Jn r).length+(min k r.ins.length+r.hs.length)=(QK r).length:=by rw[←hlst];simp
   exact bodyPost_ret (v:= .slice A1 (QK r).length c1) (by simp[results, Tryz.results40,go_sem,hlen]) rfl ⟨A1,c1,rfl,hc1,ho2.mono (by omega),hbl2⟩
theorem Own.nil_lit(w:World)(B:Nat)(T:TypeId)(hB:B≤w.heap.size):Own (w.alloc (.cells #[] T)) B T 1 Qe (.slice (some ⟨w.heap.size,0,none⟩) 0 0) []:=
 World.ownsRow_lit (base:=B) (size:=1) w #[] 0 hB (by decide) rfl
def repL(r:Rep):List Int:=if QL r then QK r else []
set_option maxRecDepth 100000 in
set_option maxHeartbeats 1000000 in
theorem JZ(A A':Option Addr)(c c':Nat)(r:Rep)(w:World)(h:Sl w 3 Qd A r.ins.length r.ins)(h':Sl w 1 Qe A' r.hs.length r.hs)(hln:r.ins.length≤9223372036854775807)(hln':r.hs.length≤9223372036854775807)(hA':A'=none→c'=0):
 Calls Sq.prog 15 #[.agg #[.int .i64 r.lv,.int .i64 r.pl,.int .i64 r.sc,.slice A r.ins.length c,.slice A' r.hs.length c',.int .i64 r.tag]] w (XM 3 1 Qe (repL r) w):=by
 have hB0:=Blk.new w #[.int .i64 r.lv,.int .i64 r.pl,.int .i64 r.sc,.slice A r.ins.length c,.slice A' r.hs.length c',.int .i64 r.tag] 33
 go_enter Sq.func15, Tryz.ntmps15
 go_wp2_with fail
 refine(Xh _ _ _ _ r _ (h.below (Qf (Below.refl _ _) _)) (h'.below (Qf (Below.refl _ _) _)) hln hln').mono ?_
 rintro e w0 ⟨rfl,hb0⟩
 have hB1:=hB0.later hb0
 have hd1:=Qa (Qf (Below.refl w.heap.size w) _) hb0
 have hs0:=hd1.size
 have hN0:=hB1.1
 clear hB0 hb0
 cases hok:QL r with
 |false=>
  have hrl:repL r= []:=by unfold repL;rw[hok];rfl
  go_wp2
  rw[hrl]
  exact bodyPost_ret (v:= .slice none 0 0) (by simp[results, Tryz.results15,go_sem]) rfl ⟨none,0,rfl,Nat.le_refl _,Own.none_,hd1⟩
 |true=>
  have hrl:repL r=QK r:=by unfold repL;rw[hok];rfl
  obtain⟨hv,hn,hh⟩:=QbI hok
  have Hh:=Lib.hid hh
  have hn':r.hs.length≤12:=by omega
  clear hh
  obtain⟨i0,hi,hz0,hz1,hz2⟩:=info_parts Sq.infoInt
  obtain⟨x0,x1,x2,x3,x4,x5⟩:=hB1.c6
  have hO0:=QiF w0 (w.heap.size+1) w0.heap.size r.lv r.pl r.sc r.ins.length (by omega) rfl
  have hB2:=hB1.alloc (.cells #[.int .i64 r.lv,.int .i64 r.pl,.int .i64 r.sc,.int .i64 r.ins.length] 3)
  have hd2:=Qf hd1 (.cells #[.int .i64 r.lv,.int .i64 r.pl,.int .i64 r.sc,.int .i64 r.ins.length] 3)
  clear hB1
  go_wp2
  go_loopw [3,22] (fun v i wr=>∃k:Nat,k≤r.ins.length∧i= .int .i64 k∧Own wr (w.heap.size+1) 3 1 Qe v (Jn r++(r.ins.take k).map code)∧Blk wr w.heap.size [.int .i64 r.lv,.int .i64 r.pl,.int .i64 r.sc,.slice A r.ins.length c,.slice A' r.hs.length c',.int .i64 r.tag]∧Below w.heap.size w wr) (fun _ i _=>r.ins.length - (intOf i).toNat)
  case atStart=>exact⟨0,Nat.zero_le _,rfl,by rw[List.take_zero,List.map_nil,List.append_nil];exact hO0,hB2,hd2⟩
  case round=>
   obtain⟨k,hk,rfl,ho,hB,hb⟩:=hrel
   clear hO0 hB2 hd2 x0 x1 x2 x3 x4 x5 hd1
   obtain⟨x0,x1,x2,x3,x4,x5⟩:=hB.c6
   have hzz:=hB.1
   have hL:(Jn r++(r.ins.take k).map code).length≤64:=by simp[Jn];omega
   by_cases hlt:k<r.ins.length
   ·obtain⟨b,off,x,rfl,hbl,hx,hc⟩:=(h.below hb).at_ hlt
    have q0:wr.cell? ⟨b,off+k*3,none⟩=some (.int .i64 x.s):=hc 0 _ rfl
    have q1:wr.cell? ⟨b,off+k*3+1,none⟩=some (.int .i64 x.p):=hc 1 _ rfl
    have q2:wr.cell? ⟨b,off+k*3+2,none⟩=some (.bool x.z):=hc 2 _ rfl
    have hxv:=hv x (List.mem_of_getElem? hx)
    have Hxv:=Lib.hid hxv
    have Hx:=Lib.hid hx
    clear hx hc hxv hv h h' hok
    go_wp2_with (first
     |(go_at_call 49;refine(Qem x _ Hxv.out).mono ?_;rintro e w1 ⟨rfl,hb1⟩)
     |(at_builtin;refine Xp rfl _ _ 31 rfl (w.heap.size+1) 3 i0 (.int .i64 0) 1 8 (Sq.und Tryz.underlying31) hi hz0 hz1 hz2 rfl (by decide) Qi JH _ _ [code x] rfl (((ho.alloc _).later hb1).alloc _) _ 1 1 rfl (Sl.one _ (code x) _ _ rfl) (by intro e;cases e) (by unfold maxLen;omega) (by omega) (by have:=hb1.size;simp at this;simp;omega) ?_;intro v' w2 ho2 hg2))
    case roundEnd=>
     have hg3:(w1.alloc (.cells #[.int .i64 (code x)] 3)).grownBy w2 u3.ownBlock:=hg2
     have hb2:=hb.alloc hb.size (.cells #[.int .i64 x.s,.int .i64 x.p,.bool x.z] 39)
     have hrow:=(ho.alloc (.cells #[.int .i64 x.s,.int .i64 x.p,.bool x.z] 39)).lt
     have hBl:=(((hB.alloc (.cells #[.int .i64 x.s,.int .i64 x.p,.bool x.z] 39)).later hb1).alloc (.cells #[.int .i64 (code x)] 3)).grown hg3 (by intro e;have:=(hrow _ e).1;omega)
     have hbl2:Below w.heap.size w w2:=((hb2.trans (hb1.mono (by simp;omega))).alloc (Nat.le_trans hb2.size hb1.size) _).grown hg3 (by have:=hb2.size;have:=hb1.size;simp at*;omega) (fun g e=>by have:=(hrow _ e).1;omega)
     go_roundw
     case rel=>exact⟨k+1,by omega,by go_num,by rw[QlJ Hx.out,←List.append_assoc];exact ho2,hBl,hbl2⟩
     case measure=>simp[intOf];omega
   ·have hs':=h'.below hb
    have hke:k=r.ins.length:=by omega
    clear h h' hv
    go_wp2_with (at_builtin;refine Xp rfl _ _ 31 rfl (w.heap.size+1) 3 i0 (.int .i64 0) 1 8 (Sq.und Tryz.underlying31) hi hz0 hz1 hz2 rfl (by decide) Qi JH _ _ r.hs rfl ho _ _ _ rfl hs' hA' (by unfold maxLen;omega) (by omega) (by omega) ?_;intro v' w2 ho2 hg2)
    obtain⟨A1,c1,rfl,hc1,_⟩:=ho2.form
    have hg3:wr.grownBy w2 u3.ownBlock:=hg2
    have hrow:=ho.lt
    have hbl2:Below w.heap.size w w2:=hb.grown hg3 hb.size (fun g e=>by have:=(hrow _ e).1;omega)
    have hlst:Jn r++List.map code (List.take k r.ins)++r.hs=repL r:=by rw[hke,List.take_length,hrl];rfl
    rw[hlst] at ho2 hc1
    have hlen:(Jn r).length+(min k r.ins.length+r.hs.length)=(repL r).length:=by rw[←hlst];simp
    exact bodyPost_ret (v:= .slice A1 (repL r).length c1) (by simp[results, Tryz.results15,go_sem,hlen]) rfl ⟨A1,c1,rfl,hc1,ho2.mono (by omega),hbl2⟩
end Go.Proofs.YtpmjcjoeckajgaaGreatDoor
/- The reader of the draws: l6Open, pick. -/
namespace Go.Proofs.YtpmjcjoeckajgaaGreatDoor
open Go.ChangeShapes Go.WideShapes Go.ChangeAt Go.RowKit
def Rd(w:World)(R p:Nat):Prop:=
 ∃(A:Option Addr) (n c:Nat) (l:List Int),n≤2000∧w.cell? ⟨R,0,none⟩=some (.slice A n c)∧w.cell? ⟨R,1,none⟩=some (.int .i64 p)∧w.frozen? ⟨R,1,none⟩=false∧Sl w 1 QD A n l∧(∀x∈l,0≤x∧x<256)∧(0<n→∀a,A=some a→a.block<R)∧R<w.heap.size
theorem QcZ(w:World)(b o:Nat)(u:Value):w.grownBy (w.setCell ⟨b,o,none⟩ u) (some b):=
 ⟨rfl,rfl,rfl,by simp,fun k _ hk=>heap_setCell_other w ⟨b,o,none⟩ k u (fun e=>hk (by simp[e]))⟩
theorem Rd.step{w:World}{R p:Nat}(h:Rd w R p):Rd (w.setCell ⟨R,1,none⟩ (.int .i64 (p+1:Nat))) R (p+1):=by
 obtain⟨A,n,c,l,hn,h0,h1,h2,hs,hl,hA,hR⟩:=h
 refine⟨A,n,c,l,hn,?_,?_,?_,?_,hl,hA,by simpa using hR⟩
 ·rw[World.cell?_setCell_other w ⟨R,1,none⟩ ⟨R,0,none⟩ _ (by simp)];exact h0
 ·exact World.cell?_setCell_same' w _ _ (by simp[h1])
 ·simpa using h2
 ·rcases Nat.eq_zero_or_pos n with hz|hz
  ·subst hz
   have:=hs.len
   rw[List.length_eq_zero_iff.1 this]
   exact Sl.nil
  ·exact hs.grown (QcZ _ _ _ _) (fun a ha e=>by have:=hA hz a ha;injection e with e;omega)
theorem Rd.drewN{w:World}{R p:Nat}(h:Rd w R p)(n:Nat):Rd (w.drewN n) R p:=h
end Go.Proofs.YtpmjcjoeckajgaaGreatDoor
