/- Lemmas: Dvg DvgA DvgS. -/
import Derived.Test.YtgaimkihacljdaaGreatZBase
/- Differences of two lists: plain; impl.differences over the stand-in; the first one and the number of them. (Round C) -/
namespace Go.Proofs.YtgaimkihacljdaaGreat
open Go.ChangeShapes Go.WideShapes Go.ChangeAt Go.RowKit
def JX(x:Bool):List Value:=[.bool x]
theorem QfP(x:Bool):(JX x).length=1:=rfl
def difB(a b:List Int)(i:Nat):Bool:=decide (a.length≤i) || decide (b.length≤i) || (a.getD i 0 != b.getD i 0)
def difL(a b:List Int):List Bool:=(List.range (max a.length b.length)).map (difB a b)
theorem QaE(a b:List Int):(difL a b).length=max a.length b.length:=by simp[difL]
theorem QaY(a b:List Int){i:Nat}(h:i<max a.length b.length):(difL a b)[i]? =some (difB a b i):=by
 simp only[difL,List.getElem?_map,List.getElem?_range h,Option.map_some]
theorem Qee{a b:List Int}{i:Nat}{x y:Int}(hx:a[i]? =some x)(hy:b[i]? =some y):difB a b i=(x != y):=by
 have h1:=(List.getElem?_eq_some_iff.1 hx).1
 have h2:=(List.getElem?_eq_some_iff.1 hy).1
 unfold difB
 rw[decide_eq_false (by omega),decide_eq_false (by omega),List.getD_eq_getElem?_getD,List.getD_eq_getElem?_getD,hx,hy]
 rfl
theorem Qef{a b:List Int}{i:Nat}(h: ¬(i<a.length∧i<b.length)):difB a b i=true:=by
 unfold difB
 by_cases h1:a.length≤i
 ·simp[h1]
 ·have h2:b.length≤i:=by omega
  simp[h2]
theorem Qhx{w:World}{b off k:Nat}{x:Bool}(hc: ∀j v,(JX x)[j]? =some v→w.cell? ⟨b,off+k*1+j,none⟩=some v):w.cell? ⟨b,off+k,none⟩=some (.bool x):=by
 have:=hc 0 _ rfl
 simpa using this
theorem Sq.infoBool:(Sq.prog.info? 4).map (fun i=>(i.zero,i.size,i.bytes))=some (some (.bool false),1,1):=by kernel_rfl
set_option maxRecDepth 100000 in
theorem QhR(A A':Option Addr)(n n' c c':Nat)(l l':List Int)(w:World)(h:Sl w 1 Qe A n l)(h':Sl w 1 Qe A' n' l')(hn:n≤1048576)(hn':n'≤1048576):
 Calls Sq.prog 45 #[.slice A n c,.slice A' n' c'] w fun e w'=>e= .returned (.slice (some ⟨w.heap.size+1+1,0,none⟩) (difL l l').length (difL l l').length)∧Own w' w.heap.size 4 1 JX (.slice (some ⟨w.heap.size+1+1,0,none⟩) (difL l l').length (difL l l').length) (difL l l')∧Below w.heap.size w w':=by
 obtain⟨i0,hi,hz0,hz1,hz2⟩:=info_parts Sq.infoBool
 have hD:=QaE l l'
 rw[h.1,h'.1] at hD
 have hm:(if n<n' then(n':Int) else(n:Int))=((max n n':Nat):Int):=by split<;>omega
 have hmn:n≤max n n':=by omega
 have hmn':n'≤max n n':=by omega
 have hmx: ∀i,i<n∨i<n'↔i<max n n':=by omega
 revert hm hD hmn hmn' hmx
 generalize hm':max n n'=m
 intro hD hm hmn hmn' hmx
 have hm64:m≤1048576:=by omega
 clear hm'
 rw[hD]
 go_enter Sq.func45,Sq.ntmps45
 simp only[Sq.stub,QcE,sR0,sR1,sR2,sRA,sRB,sBox,sR3,sR4,sR5,sR6,JI,sop]
 have hp: ∀(x:Next) (w:World),Sem.run Sq.prog (pure x) w= .ok x w:=fun _ _=>rfl
 go_wp2
 rw[hp]
 go_simp
 clear hp
 go_wp2_with (at_make;refine wpList_make_full _ rfl _ _ 81 rfl w.heap.size 4 i0 (.bool false) 1 (Sq.und Tryz.underlying81) hi hz0 hz1 _ _ _ _ m rfl rfl rfl rfl ?c1 ?c2 ?c3 ?_)
 case c1=>rw[hz2];omega
 case c2=>unfold maxLen;omega
 case c3=>simp;omega
 intro w1 ho hg
 have hb1:Below w.heap.size w w1:=Qa (Qf (Qf (Below.refl _ _) _) _) (QcN hg (Nat.le_refl _) (by intro k e;cases e))
 generalize hM:(madeCells _ _).toList=M at ho
 have HM:=Lib.hid ho.1
 have HD:=Lib.hid hD
 clear hM hg hD
 go_wp2
 go_loopw [9] (fun j wr=>∃k:Nat,k≤m+63∧j= .int .i64 k∧wr.ownsRow w.heap.size 4 1 (.slice (some ⟨w.heap.size+1+1,0,none⟩) m m) m M∧Below w.heap.size w wr) (fun j _=>m+64 - (intOf j).toNat)
 case atStart=>
  refine⟨0,Nat.zero_le _,rfl,?_,?_⟩
  ·repeat(first|exact ho|refine World.ownsRow.alloc ?_ _)
  · (with_reducible repeat first|exact bl0 _ _|refine blA ?_ _|(refine blS ?_ ?_ _;(simp<;>omega))|refine blD ?_|refine blN ?_ _|refine blF ?_ ‹_›)
 case round=>
  obtain⟨k0,hk0,rfl,ho0,hb0⟩:=hrel
  clear ho hb1
  by_cases hlt0:k0<m
  ·clear h h'
   go_wp2
   go_roundw
   case rel=>
    refine⟨k0+64,by omega,by go_num,?_,?_⟩
    ·repeat(first|exact ho0|refine World.ownsRow.alloc ?_ _)
    · (with_reducible repeat first|exact bl0 _ _|refine blA ?_ _|(refine blS ?_ ?_ _;(simp<;>omega))|refine blD ?_|refine blN ?_ _|refine blF ?_ ‹_›)
   case measure=>simp[intOf];omega
  ·go_wp2
   go_loopw [6] (fun j wr=>∃k:Nat,k≤m∧j= .int .i64 k∧wr.ownsRow w.heap.size 4 1 (.slice (some ⟨w.heap.size+1+1,0,none⟩) m m) m (Xf JX 1 (difL l l') M k)∧Below w.heap.size w wr) (fun j _=>m - (intOf j).toNat)
   case atStart=>
    refine⟨0,Nat.zero_le _,rfl,?_,hb0⟩
    rw[Qak]
    exact ho0
   case round=>
    obtain⟨k,hk,rfl,ho1,hb⟩:=hrel
    have rel: ∀(q:Bool),k<m→difB l l' k=q→(wr.setCell ⟨w.heap.size+1+1,k,none⟩ (.bool q)).ownsRow w.heap.size 4 1 (.slice (some ⟨w.heap.size+1+1,0,none⟩) m m) m (Xf JX 1 (difL l l') M (k+1)):=by
     intro q hk2 hq
     have hp:=J3 (JX q) _ (k*1) wr ho1
     rw[QaD QfP (by rw[HD.out];exact HM.out) (by rw[QaY _ _ (by rw[←QaE,HD.out];exact hk2),hq])] at hp
     simp only[Nat.mul_one] at hp
     exact hp.1
    have Hrel:=Lib.hid rel
    clear rel
    have hsh:=h.below hb
    have hsh':=h'.below hb
    have hln:=h.1
    have hln':=h'.1
    by_cases hlt:k<m
    ·obtain⟨⟨v0,c0⟩,f0⟩:=Zk ho1 hlt 0 (by omega)
     simp only[Nat.add_zero,Nat.mul_one] at c0 f0
     have hbs: ∀q,Below w.heap.size w (wr.setCell ⟨w.heap.size+1+1,k,none⟩ (.bool q)):=fun q=>hb.setCell (by show w.heap.size≤w.heap.size+1+1;omega) _
     by_cases h1:k<n
     ·by_cases h2:k<n'
      ·obtain⟨b,off,x,rfl,hbl,hx,hc⟩:=hsh.at_ h1
       obtain⟨b',off',x',rfl,hbl',hx',hc'⟩:=hsh'.at_ h2
       have q0:=Jg hc
       have r0:=Jg hc'
       have hq:=Qee hx hx'
       have Hq:=Lib.hid hq
       clear hq hc hc' hx hx' h h' hsh hsh' hln hln'
       go_wp2
       go_roundw
       case rel=>exact⟨k+1,by omega,by go_num,Hrel.out _ hlt Hq.out,hbs _⟩
       case measure=>simp[intOf];omega
      ·have Hq:=Lib.hid (Qef (a:=l) (b:=l') (i:=k) (by omega))
       clear h h' hsh hsh' hln hln'
       go_wp2
       go_roundw
       case rel=>exact⟨k+1,by omega,by go_num,Hrel.out _ hlt Hq.out,hbs _⟩
       case measure=>simp[intOf];omega
     ·have Hq:=Lib.hid (Qef (a:=l) (b:=l') (i:=k) (by omega))
      clear h h' hsh hsh' hln hln'
      go_wp2
      go_roundw
      case rel=>exact⟨k+1,by omega,by go_num,Hrel.out _ hlt Hq.out,hbs _⟩
      case measure=>simp[intOf];omega
    ·have hkn:k=m:=by omega
     have H:=Lib.hid hkn
     clear hkn h h' hsh hsh' hln hln'
     go_wp2
     refine bodyPost_end (results_tmp rfl _ _ _) rfl ?_
     refine⟨rfl,?_,hb⟩
     have e:Xf JX 1 (difL l l') M k=(difL l l').flatMap JX:=by rw[H.out,←HD.out];exact Qaj (by rw[HD.out];exact HM.out)
     rw[e] at ho1
     show _root_.Go.World.ownsRow _ _ _ _ _ (difL l l').length _
     rw[HD.out]
     exact ho1
end Go.Proofs.YtgaimkihacljdaaGreat
/- The first difference, the number of differences: program and reference. (Round C) -/
namespace Go.Proofs.YtgaimkihacljdaaGreat
open Go.ChangeShapes Go.WideShapes Go.ChangeAt Go.RowKit
def fstB(l:List Bool):Int:=match l.findIdx? id with
 |some i=>(i:Int)
 |none=> -1
def Zg(a b:List Int):Int:=fstB (difL a b)
theorem Qin{l:List Bool}{k:Nat}(h: ∀i,i<k→l[i]? =some false)(hk:l[k]? =some true):fstB l=k:=by
 have e:l.findIdx? id=some k:=by
  rw[List.findIdx?_eq_some_iff_getElem]
  obtain⟨hlt,he⟩:=List.getElem?_eq_some_iff.1 hk
  refine⟨hlt,by simpa using he,fun j hj=>?_⟩
  obtain⟨_,hx⟩:=List.getElem?_eq_some_iff.1 (h j hj)
  simp[hx]
 simp[fstB,e]
theorem Qio{l:List Bool}(h: ∀i,i<l.length→l[i]? =some false):fstB l= -1:=by
 have e:l.findIdx? id=none:=by
  rw[List.findIdx?_eq_none_iff]
  intro x hx
  obtain⟨i,hi⟩:=List.getElem?_of_mem hx
  have hlt:=(List.getElem?_eq_some_iff.1 hi).1
  rw[h i hlt] at hi
  simp at hi
  simp[←hi]
 simp[fstB,e]
set_option maxRecDepth 100000 in
theorem Qqd(A:Option Addr)(n c:Nat)(l:List Bool)(w:World)(h:Sl w 1 JX A n l)(hn:n≤9223372036854775807):
 Calls Sq.prog 44 #[.slice A n c,.bool true] w fun e w'=>e= .returned (.int .i64 (fstB l))∧w=w':=by
 have hln:=h.1
 go_enter Sq.func44, Tryz.ntmps44
 go_wp2
 go_loop [8] (fun i=>∃k:Nat,k≤n∧i= .int .i64 k∧∀i,i<k→l[i]? =some false) (fun i=>n - (intOf i).toNat)
 case atStart=>exact⟨0,Nat.zero_le _,rfl,fun i hi=>absurd hi (Nat.not_lt_zero _)⟩
 case round=>
  obtain⟨k,hk,rfl,ht⟩:=hrel
  have Ht:=Lib.hid ht
  clear ht
  by_cases hlt:k<n
  ·obtain⟨b,off,x,rfl,hbl,hx,hc⟩:=h.at_ hlt
   have q0:=Qhx hc
   have Hx:=Lib.hid hx
   clear h hc hx
   cases x with
   |true=>
    go_wp2
    go_ret
    exact⟨QU (Qin Ht.out Hx.out).symm,rfl⟩
   |false=>
    go_wp2
    go_round
    case rel=>
     refine⟨k+1,by omega,by go_num,fun i hi=>?_⟩
     by_cases e:i=k
     ·rw[e];exact Hx.out
     ·exact Ht.out i (by omega)
    case measure=>simp[intOf];omega
  ·have hkn:k=n:=by omega
   have H:=Lib.hid hkn
   clear hkn h
   have Hl:=Lib.hid hln
   clear hln
   go_wp2
   go_ret
   exact⟨QU (Qio (fun i hi=>Ht.out i (by rw[H.out,←Hl.out];exact hi))).symm,rfl⟩
set_option maxRecDepth 100000 in
theorem Js(A A':Option Addr)(n n' c c':Nat)(l l':List Int)(w:World)(h:Sl w 1 Qe A n l)(h':Sl w 1 Qe A' n' l')(hn:n≤1048576)(hn':n'≤1048576):
 Calls Sq.prog 25 #[.slice A n c,.slice A' n' c'] w fun e w'=>e= .returned (.int .i64 (Zg l l'))∧Below w.heap.size w w':=by
 have hm:=QaE l l'
 rw[h.1,h'.1] at hm
 have HM:=Lib.hid hm
 clear hm
 go_enter Sq.func25, Tryz.ntmps25
 go_wp2_with (first
  |(go_at_call 45;refine(QhR A A' n n' c c' l l' _ h h' hn hn').mono ?_;rintro e w1 ⟨rfl,ho,hb⟩)
  |(go_at_call 44;refine(Qqd _ _ _ _ _ (ho.sl QfP) (by have:=HM.out;omega)).mono ?_;rintro e w2 ⟨rfl,rfl⟩))
 go_ret
 exact⟨rfl,hb⟩
end Go.Proofs.YtgaimkihacljdaaGreat
/- The reference's first difference and number of differences. (Round C) -/
namespace Go.Proofs.YtgaimkihacljdaaGreat
open Go.ChangeShapes Go.WideShapes Go.ChangeAt Go.RowKit
set_option maxRecDepth 100000 in
theorem QeE(A A':Option Addr)(n n' c c' k:Nat)(l l':List Int)(w:World)(h:Sl w 1 Qe A n l)(h':Sl w 1 Qe A' n' l'):
 Calls Sq.prog 31 #[.slice A n c,.slice A' n' c',.int .i64 k] w fun e w'=>e= .returned (.bool (difB l l' k))∧Below w.heap.size w w':=by
 have hln:=h.1
 have hln':=h'.1
 by_cases h1:k<n
 ·by_cases h2:k<n'
  ·obtain⟨b,off,x,rfl,hbl,hx,hc⟩:=h.at_ h1
   obtain⟨b',off',x',rfl,hbl',hx',hc'⟩:=h'.at_ h2
   have q0:=Jg hc
   have r0:=Jg hc'
   have Hq:=Lib.hid (Qee hx hx')
   have d1: ¬n≤k:=by omega
   have d2: ¬n'≤k:=by omega
   clear hc hc' hx hx' h h' hln hln'
   go_enter Sq.func31, Tryz.ntmps31
   go_wp2
   go_quiet (fail)
   go_wp2
   go_ret
   exact⟨Qs Hq.out.symm,by(with_reducible repeat first|assumption|exact bl0 _ _|refine blA ?_ _|(refine blS ?_ ?_ _;(simp<;>omega))|refine blD ?_|refine blN ?_ _|refine blF ?_ ‹_›)⟩
  ·have Hq:=Lib.hid (Qef (a:=l) (b:=l') (i:=k) (by omega))
   have d1: ¬n≤k:=by omega
   have d2:n'≤k:=by omega
   clear h h' hln hln'
   go_enter Sq.func31, Tryz.ntmps31
   go_wp2
   go_quiet (fail)
   go_wp2
   go_ret
   exact⟨Qs Hq.out.symm,by(with_reducible repeat first|assumption|exact bl0 _ _|refine blA ?_ _|(refine blS ?_ ?_ _;(simp<;>omega))|refine blD ?_|refine blN ?_ _|refine blF ?_ ‹_›)⟩
 ·have Hq:=Lib.hid (Qef (a:=l) (b:=l') (i:=k) (by omega))
  have d1:n≤k:=by omega
  clear h h' hln hln'
  go_enter Sq.func31, Tryz.ntmps31
  go_wp2
  go_quiet (fail)
  go_wp2
  go_ret
  exact⟨Qs Hq.out.symm,by(with_reducible repeat first|assumption|exact bl0 _ _|refine blA ?_ _|(refine blS ?_ ?_ _;(simp<;>omega))|refine blD ?_|refine blN ?_ _|refine blF ?_ ‹_›)⟩
theorem QfW{a b:List Int}{k:Nat}(hk:k<max a.length b.length)(h: ∀i,i<k→difB a b i=false)(ht:difB a b k=true):Zg a b=k:=
 Qin (fun i hi=>by rw[QaY a b (by omega),h i hi]) (by rw[QaY a b hk,ht])
theorem Qif{a b:List Int}(h: ∀i,i<max a.length b.length→difB a b i=false):Zg a b= -1:=
 Qio (fun i hi=>by rw[QaE] at hi;rw[QaY a b hi,h i hi])
set_option maxRecDepth 100000 in
theorem Qaw(A A':Option Addr)(n n' c c':Nat)(l l':List Int)(w:World)(h:Sl w 1 Qe A n l)(h':Sl w 1 Qe A' n' l')(hn:n≤1152921504606846976)(hn':n'≤1152921504606846976):
 Calls Sq.prog 16 #[.slice A n c,.slice A' n' c'] w fun e w'=>e= .returned (.int .i64 (Zg l l'))∧Below w.heap.size w w':=by
 have HL:=Lib.hid h.1
 have HL':=Lib.hid h'.1
 have hm:(if n<n' then(n':Int) else(n:Int))=((max n n':Nat):Int):=by split<;>omega
 obtain⟨m,hm'⟩: ∃m,max n n'=m:=⟨_,rfl⟩
 have HM:=Lib.hid hm'
 have hm1:m≤1152921504606846976:=by omega
 rw[hm'] at hm
 clear hm'
 go_enter Sq.func16, Tryz.ntmps16
 go_wp2
 go_loopw [5] (fun i wr=>∃k:Nat,k≤m∧i= .int .i64 k∧(∀i,i<k→difB l l' i=false)∧Below w.heap.size w wr) (fun i _=>m - (intOf i).toNat)
 case atStart=>exact⟨0,Nat.zero_le _,rfl,fun i hi=>absurd hi (Nat.not_lt_zero _),Below.refl _ _⟩
 case round=>
  obtain⟨k,hk,rfl,ht,hb⟩:=hrel
  have Ht:=Lib.hid ht
  clear ht
  by_cases hlt:k<m
  ·have HS:=Lib.hid (h.below hb)
   have HS':=Lib.hid (h'.below hb)
   clear h h'
   cases hq:difB l l' k with
   |true=>
    have Hq:=Lib.hid hq
    clear hq
    go_wp2_with (go_at_call 31;refine(QeE A A' n n' c c' k l l' _ HS.out HS'.out).mono ?_;rw[Hq.out];rintro e w1 ⟨rfl,hb1⟩)
    go_ret
    exact⟨QU (QfW (by rw[HL.out,HL'.out,HM.out];exact hlt) Ht.out Hq.out).symm,by(with_reducible repeat first|assumption|exact bl0 _ _|refine blA ?_ _|(refine blS ?_ ?_ _;(simp<;>omega))|refine blD ?_|refine blN ?_ _|refine blF ?_ ‹_›)⟩
   |false=>
    have Hq:=Lib.hid hq
    clear hq
    go_wp2_with (go_at_call 31;refine(QeE A A' n n' c c' k l l' _ HS.out HS'.out).mono ?_;rw[Hq.out];rintro e w1 ⟨rfl,hb1⟩)
    go_roundw
    case rel=>
     refine⟨k+1,by omega,by go_num,fun i hi=>?_,by(with_reducible repeat first|assumption|exact bl0 _ _|refine blA ?_ _|(refine blS ?_ ?_ _;(simp<;>omega))|refine blD ?_|refine blN ?_ _|refine blF ?_ ‹_›)⟩
     by_cases e:i=k
     ·rw[e];exact Hq.out
     ·exact Ht.out i (by omega)
    case measure=>simp[intOf];omega
  ·have H:=Lib.hid (show k=m by omega)
   clear h h'
   go_wp2
   go_ret
   exact⟨QU (Qif (fun i hi=>Ht.out i (by rw[HL.out,HL'.out,HM.out] at hi;rw[H.out];exact hi))).symm,by(with_reducible repeat first|assumption|exact bl0 _ _|refine blA ?_ _|(refine blS ?_ ?_ _;(simp<;>omega))|refine blD ?_|refine blN ?_ _|refine blF ?_ ‹_›)⟩
end Go.Proofs.YtgaimkihacljdaaGreat
