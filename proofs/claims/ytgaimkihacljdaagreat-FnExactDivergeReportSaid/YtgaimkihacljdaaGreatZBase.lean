/- Lemmas: Mem Plain Conv ConvI Inps InpL Reps RepC App AppL Wk. -/
import Derived.Test.YtgaimkihacljdaaGreatRows
import Derived.Test.YtgaimkihacljdaaGreatBprog
import Derived.WalkKit
import Derived.ProofKit
import Derived.OpenShut
import Derived.Lib.Hide
import Derived.Laws.OwnMore
import Derived.Deep.QuietTactic
import Derived.BigQuiet
import Derived.Outline
import Derived.StillTailTactics
import Derived.Laws.AppendOwnNone
import Derived.OwnWalk
import Derived.Maps.AppendAt
/- Plain words for memory: a slice of structs that reads as a list; a slice of the call's own; small lemmas on worlds. No program is named here. -/
namespace Go.Proofs.YtgaimkihacljdaaGreat
open Go.ChangeShapes Go.WideShapes Go.ChangeAt Go.RowKit
def Sl{α:Type}(w:World)(sz:Nat)(enc:α→List Value)(A:Option Addr)(n:Nat)(l:List α):Prop:=
 l.length=n∧(0<n→∃b off,A=some ⟨b,off,none⟩∧b<w.heap.size∧∀k x,l[k]? =some x→∀j v,(enc x)[j]? =some v→w.cell? ⟨b,off+k*sz+j,none⟩=some v)
section
variable {α : Type} {w w' : World} {sz : Nat} {enc : α → List Value} {A : Option Addr} {n : Nat} {l : List α}
theorem Sl.len(h:Sl w sz enc A n l):l.length=n:=h.1
theorem Sl.below(h:Sl w sz enc A n l)(hb:Below w.heap.size w w'):Sl w' sz enc A n l:=
 ⟨h.1,fun hn=>by
   obtain⟨b,off,e,hlt,hc⟩:=h.2 hn
   exact⟨b,off,e,Nat.lt_of_lt_of_le hlt hb.size,fun k x hk j v hv=>(hb.cell hlt).trans (hc k x hk j v hv)⟩⟩
theorem Sl.grown(h:Sl w sz enc A n l){row:Option Nat}(hg:w.grownBy w' row)(hne: ∀a,A=some a→row≠some a.block):Sl w' sz enc A n l:=
 ⟨h.1,fun hn=>by
   obtain⟨b,off,e,hlt,hc⟩:=h.2 hn
   exact⟨b,off,e,Nat.lt_of_lt_of_le hlt hg.size,fun k x hk j v hv=>hg.cell (hc k x hk j v hv) (fun e2=>hne _ e e2.symm)⟩⟩
theorem Sl.at_{k:Nat}(h:Sl w sz enc A n l)(hk:k<n): ∃b off x,A=some ⟨b,off,none⟩∧b<w.heap.size∧l[k]? =some x∧∀j v,(enc x)[j]? =some v→w.cell? ⟨b,off+k*sz+j,none⟩=some v:=by
 obtain⟨b,off,e,hlt,hc⟩:=h.2 (by omega)
 have hx:l[k]? =some (l[k]'(by have:=h.1;omega)):=List.getElem?_eq_getElem _
 exact⟨b,off,_,e,hlt,hx,hc k _ hx⟩
theorem Sl.nil:Sl w sz enc A 0 []:=⟨rfl,fun h=>absurd h (by omega)⟩
end
theorem JO{α:Type}{enc:α→List Value}{sz:Nat}(he: ∀x,(enc x).length=sz): ∀(l:List α) (k:Nat) (x:α) (j:Nat) (v:Value),l[k]? =some x→(enc x)[j]? =some v→(l.flatMap enc)[k*sz+j]? =some v
 |[],k,x,j,v,hk,_=>by simp at hk
 |a :: l,0,x,j,v,hk,hj=>by
  simp only[List.getElem?_cons_zero,Option.some.injEq] at hk
  subst hk
  rw[List.flatMap_cons,Nat.zero_mul,Nat.zero_add,List.getElem?_append_left (by exact(List.getElem?_eq_some_iff.1 hj).1)]
  exact hj
 |a :: l,k+1,x,j,v,hk,hj=>by
  simp only[List.getElem?_cons_succ] at hk
  have h1:(enc a).length≤(k+1)*sz+j:=by rw[he,Nat.add_mul];omega
  have h2:(k+1)*sz+j - (enc a).length=k*sz+j:=by rw[he,Nat.add_mul];omega
  rw[List.flatMap_cons,List.getElem?_append_right h1,h2]
  exact JO he l k x j v hk hj
theorem Qa2{α:Type}{enc:α→List Value}{sz:Nat}(he: ∀x,(enc x).length=sz): ∀l:List α,(l.flatMap enc).length=l.length*sz
 |[]=>by simp
 |a :: l=>by rw[List.flatMap_cons,List.length_append,he,Qa2 he l,List.length_cons,Nat.add_mul];omega
def Own{α:Type}(w:World)(B:Nat)(T:TypeId)(sz:Nat)(enc:α→List Value)(v:Value)(l:List α):Prop:=w.ownsRow B T sz v l.length (l.flatMap enc)
section
variable {α : Type} {w w' : World} {B B' : Nat} {T : TypeId} {sz : Nat} {enc : α → List Value} {v : Value} {l : List α}
theorem Own.form(h:Own w B T sz enc v l): ∃A c,v= .slice A l.length c∧l.length≤c∧(∀a,A=some a→B≤a.block∧a.block<w.heap.size∧a.off=0∧a.spot=none):=by
 obtain⟨hl,h|⟨g,cap,cur,rfl,hb,hg,hc,_⟩⟩:=h
 ·obtain⟨rfl,h0⟩:=h
  exact⟨none,0,by rw[h0],by omega,fun a e=>by cases e⟩
 ·exact⟨_,cap,rfl,hc,fun a e=>by cases e;exact⟨hb,(Array.getElem?_eq_some_iff.1 hg).1,rfl,rfl⟩⟩
theorem Own.sl{A:Option Addr}{n c:Nat}(he: ∀x,(enc x).length=sz)(h:Own w B T sz enc (.slice A n c) l):Sl w sz enc A n l:=by
 have hn:n=l.length:=by
  obtain⟨A',c',e,_⟩:=h.form
  injection e
 subst hn
 refine⟨rfl,fun hpos=>?_⟩
 rcases h.2 with h'|⟨g,cap,cur,e,hb,hg,_⟩
 ·omega
 ·have hA:A=some ⟨g,0,none⟩:=by injection e
  subst hA
  refine⟨g,0,rfl,(Array.getElem?_eq_some_iff.1 hg).1,fun k x hk j u hu=>?_⟩
  have:=World.ownsRow.cells h (g:=g) rfl (k*sz+j) u (JO he l k x j u hk hu)
  rw[Nat.zero_add]
  unfold Addr.add at this
  split at this
  ·rename_i h0
   rw[h0];exact this
  ·simpa using this
theorem Own.kept{row:Option Nat}(h:Own w B T sz enc v l)(hg:w.grownBy w' row)(hne:v.ownBlock=none∨v.ownBlock≠row):Own w' B T sz enc v l:=World.ownsRow.kept h hg hne
theorem Own.below{b:Nat}(h:Own w B T sz enc v l)(hb:Below b w w')(hv: ∀g,v.ownBlock=some g→g<b):Own w' B T sz enc v l:=by
 refine⟨h.1,?_⟩
 rcases h.2 with hn|⟨g,cap,cur,rfl,hB,hgg,rest⟩
 ·exact .inl hn
 ·exact .inr ⟨g,cap,cur,rfl,hB,(hb.block g (hv g rfl)).trans hgg,rest⟩
theorem Own.lt(h:Own w B T sz enc v l): ∀g,v.ownBlock=some g→B≤g∧g<w.heap.size:=by
 intro g hg
 rcases h.2 with⟨rfl,_⟩|⟨g',cap,cur,rfl,hB,hgg,rest⟩
 ·simp[Value.ownBlock] at hg
 ·simp only[Value.ownBlock,Option.some.injEq] at hg
  subst hg
  exact⟨hB,(Array.getElem?_eq_some_iff.1 hgg).1⟩
theorem Own.later(h:Own w B T sz enc v l)(hb:Below w.heap.size w w'):Own w' B T sz enc v l:=h.below hb fun g hg=>(h.lt g hg).2
theorem Own.mono(h:Own w B T sz enc v l)(hB:B'≤B):Own w B' T sz enc v l:=by
 refine⟨h.1,?_⟩
 rcases h.2 with hn|⟨g,cap,cur,rfl,hb,rest⟩
 ·exact .inl hn
 ·exact .inr ⟨g,cap,cur,rfl,by omega,rest⟩
theorem Own.set{p:Addr}(hp:p.block<B)(h:Own w B T sz enc v l)(u:Value):Own (w.setCell p u) B T sz enc v l:=ownsRow_setCell_below h hp u
theorem Own.alloc(h:Own w B T sz enc v l)(o:Obj):Own (w.alloc o) B T sz enc v l:=World.ownsRow.alloc h o
theorem Own.none_:Own w B T sz enc (.slice none 0 0) []:=World.ownsRow_nil ..
end
theorem QcN{B:Nat}{w w':World}{row:Option Nat}(hg:w.grownBy w' row)(hB:B≤w.heap.size)(hr: ∀k,row=some k→B≤k):Below B w w':=(Below.refl B w).grown hg hB hr
theorem Xz{B:Nat}{a w:World}(h:Below B a w)(n:Nat):Below B a (w.drewN n):=⟨h.os,h.tape,h.output,h.size,h.block⟩
theorem Qy{W w1:World}(hb:Below W.heap.size W w1):(∀b o,b<W.heap.size→w1.cell? ⟨b,o,none⟩=W.cell? ⟨b,o,none⟩)∧(∀b o,b<W.heap.size→w1.frozen? ⟨b,o,none⟩=W.frozen? ⟨b,o,none⟩):=
 ⟨fun b o h=>hb.cell (p:=⟨b,o,none⟩) h,fun b o h=>hb.frozen (p:=⟨b,o,none⟩) h⟩
theorem Qa{w w1 w2:World}(h:Below w.heap.size w w1)(h2:Below w1.heap.size w1 w2):Below w.heap.size w w2:=h.trans (h2.mono h.size)
theorem Qf{w w1:World}(h:Below w.heap.size w w1)(o:Obj):Below w.heap.size w (w1.alloc o):=h.alloc h.size o
theorem Jc{B:Nat}{w w1:World}{p:Addr}(hp:B≤p.block)(h:Below B w w1)(u:Value):Below B w (w1.setCell p u):=h.setCell hp u
theorem Qw{B:Nat}{w w1:World}(h:Below B w w1):Below B w w1.drew:=h.drew
theorem Qbt{w w':World}{row:Option Nat}(hb:Below w.heap.size w w'):w.grownBy w' row:=⟨hb.os,hb.tape,hb.output,hb.size,fun k hk _=>hb.block k hk⟩
/-! ### a row of cells written at once -/
def JB:List Value→Nat→List Value→List Value
 |xs,_,[]=>xs
 |xs,p,v :: vs=>JB (xs.set p v) (p+1) vs
def QbG:World→Nat→Nat→List Value→World
 |w,_,_,[]=>w
 |w,g,p,v :: vs=>QbG (w.setCell ⟨g,p,none⟩ v) g (p+1) vs
theorem Qlc: ∀(vs xs:List Value) (p i:Nat),p+vs.length≤xs.length→(JB xs p vs)[i]? =if p≤i∧i<p+vs.length then vs[i - p]? else xs[i]?
 |[],xs,p,i,_=>by rw[JB,if_neg (by simp)]
 |v :: vs,xs,p,i,h=>by
  simp only[List.length_cons] at h
  rw[JB,Qlc vs _ _ _ (by rw[List.length_set];omega),List.length_cons]
  by_cases h0:i=p
  ·subst h0
   rw[if_neg (by omega),if_pos (by omega),List.getElem?_set_self (by omega),Nat.sub_self]
   rfl
  ·by_cases h1:p+1≤i∧i<p+1+vs.length
   ·rw[if_pos h1,if_pos (by omega),show i - p=(i - (p+1))+1 from by omega,List.getElem?_cons_succ]
   ·rw[if_neg h1,if_neg (by omega),List.getElem?_set_ne (fun e=>h0 e.symm)]
theorem XT{a b c:World}{row:Option Nat}(h:a.grownBy b row)(k:b.grownBy c row):a.grownBy c row:=
 ⟨k.os.trans h.os,k.tape.trans h.tape,k.output.trans h.output,Nat.le_trans h.size k.size,fun i hi hn=>(k.block i (Nat.lt_of_lt_of_le hi h.size) hn).trans (h.block i hi hn)⟩
theorem Ql(w:World)(row:Option Nat):w.grownBy w row:=⟨rfl,rfl,rfl,Nat.le_refl _,fun _ _ _=>rfl⟩
theorem J3{base:Nat}{e:TypeId}{size g n cap:Nat}: ∀(vs xs:List Value) (p:Nat) (w:World),w.ownsRow base e size (.slice (some ⟨g,0,none⟩) n cap) n xs→
 (QbG w g p vs).ownsRow base e size (.slice (some ⟨g,0,none⟩) n cap) n (JB xs p vs)∧w.grownBy (QbG w g p vs) (some g)
 |[],xs,p,w,h=>⟨h,Ql _ _⟩
 |v :: vs,xs,p,w,h=>by
  obtain⟨h1,h2⟩:=h.stored p v
  obtain⟨h3,h4⟩:=J3 vs _ (p+1) _ h1
  exact⟨h3,XT h2 h4⟩
theorem Zk{base:Nat}{e:TypeId}{size g n cap:Nat}{xs:List Value}{w:World}(h:w.ownsRow base e size (.slice (some ⟨g,0,none⟩) n cap) n xs){k:Nat}(hk:k<n)(j:Nat)(hj:j<size):
 (∃v,w.cell? ⟨g,k*size+j,none⟩=some v)∧w.frozen? ⟨g,k*size+j,none⟩=false:=by
 have hle:=Nat.mul_le_mul_right size (show k+1≤n from hk)
 rw[Nat.add_mul,Nat.one_mul] at hle
 refine⟨?_,h.frozenAt _⟩
 rw[h.cellAt _ (by omega)]
 exact⟨_,List.getElem?_eq_getElem (by rw[h.1];omega)⟩
def Xf{α:Type}(enc:α→List Value)(sz:Nat)(l:List α)(m:List Value)(k:Nat):List Value:=(l.take k).flatMap enc++m.drop (k*sz)
section
variable {α : Type} {enc : α → List Value} {sz : Nat} {l : List α} {m : List Value} {k : Nat}
theorem Qak:Xf enc sz l m 0=m:=by simp[Xf]
theorem Qaj(hm:m.length=l.length*sz):Xf enc sz l m l.length=l.flatMap enc:=by
 rw[Xf,List.take_length,List.drop_of_length_le (by omega),List.append_nil]
theorem Qnc(he: ∀x,(enc x).length=sz)(hm:m.length=l.length*sz)(hk:k≤l.length):(Xf enc sz l m k).length=l.length*sz:=by
 rw[Xf,List.length_append,Qa2 he,List.length_take,List.length_drop,hm,Nat.min_eq_left hk]
 have:=Nat.mul_le_mul_right sz hk
 omega
theorem QaD(he: ∀x,(enc x).length=sz)(hm:m.length=l.length*sz){x:α}(hx:l[k]? =some x):JB (Xf enc sz l m k) (k*sz) (enc x)=Xf enc sz l m (k+1):=by
 have hk:k<l.length:=(List.getElem?_eq_some_iff.1 hx).1
 have hlt:(l.take k).length=k:=by rw[List.length_take];omega
 have hlt1:(l.take (k+1)).length=k+1:=by rw[List.length_take];omega
 have hle:=Nat.mul_le_mul_right sz (show k+1≤l.length from hk)
 have e1:(k+1)*sz=k*sz+sz:=by rw[Nat.add_mul,Nat.one_mul]
 have hta:l.take (k+1)=l.take k++ [x]:=by rw[List.take_add_one,hx];rfl
 apply List.ext_getElem?
 intro i
 rw[Qlc _ _ _ _ (by rw[Qnc he hm (by omega),he];omega),he]
 unfold Xf
 have hl1:((l.take k).flatMap enc).length=k*sz:=by rw[Qa2 he,hlt]
 rw[hta,List.flatMap_append]
 have hlx:([x].flatMap enc)=enc x:=by simp
 rw[hlx]
 by_cases h1:i<k*sz
 ·rw[if_neg (by omega),List.getElem?_append_left (by omega),List.getElem?_append_left (by rw[List.length_append,hl1];omega),List.getElem?_append_left (by omega)]
 ·by_cases h2:i<k*sz+sz
  ·rw[if_pos (by omega),List.getElem?_append_left (by rw[List.length_append,hl1,he];omega),List.getElem?_append_right (by omega),hl1]
  ·rw[if_neg (by omega),List.getElem?_append_right (by omega),List.getElem?_append_right (by rw[List.length_append,hl1,he];omega),List.length_append,hl1,he,List.getElem?_drop,List.getElem?_drop]
   congr 1
   omega
end
def Blk(w:World)(b:Nat)(cs:List Value):Prop:=b<w.heap.size∧∀j v,cs[j]? =some v→w.cell? ⟨b,j,none⟩=some v
theorem Blk.new(w:World)(cs:Array Value)(T:TypeId):Blk (w.alloc (.cells cs T)) w.heap.size cs.toList:=by
 refine⟨by simp,fun j v h=>?_⟩
 rw[cell_of_row (w.alloc (.cells cs T)) w.heap.size j cs T (0,0) (heap_alloc_new w _)]
 simpa using h
theorem Blk.below{w w':World}{b B:Nat}{cs:List Value}(h:Blk w b cs)(hb:Below B w w')(hB:b<B):Blk w' b cs:=
 ⟨Nat.lt_of_lt_of_le h.1 hb.size,fun j v hv=>(hb.cell (p:=⟨b,j,none⟩) hB).trans (h.2 j v hv)⟩
theorem Blk.later{w w':World}{b:Nat}{cs:List Value}(h:Blk w b cs)(hb:Below w.heap.size w w'):Blk w' b cs:=h.below hb h.1
theorem Blk.alloc{w:World}{b:Nat}{cs:List Value}(h:Blk w b cs)(o:Obj):Blk (w.alloc o) b cs:=h.later (Qf (Below.refl _ _) o)
theorem Blk.drew{w:World}{b:Nat}{cs:List Value}(h:Blk w b cs):Blk w.drew b cs:=h
theorem Blk.grown{w w':World}{b:Nat}{cs:List Value}{row:Option Nat}(h:Blk w b cs)(hg:w.grownBy w' row)(hne:row≠some b):Blk w' b cs:=
 ⟨Nat.lt_of_lt_of_le h.1 hg.size,fun j v hv=>hg.cell (h.2 j v hv) (fun e=>hne e.symm)⟩
theorem Blk.c1{w:World}{b:Nat}{v0:Value}(h:Blk w b [v0]):w.cell? ⟨b,0,none⟩=some v0:=h.2 0 _ rfl
theorem Blk.c2{w:World}{b:Nat}{v0 v1:Value}(h:Blk w b [v0,v1]):w.cell? ⟨b,0,none⟩=some v0∧w.cell? ⟨b,1,none⟩=some v1:=⟨h.2 0 _ rfl,h.2 1 _ rfl⟩
theorem Blk.c3{w:World}{b:Nat}{v0 v1 v2:Value}(h:Blk w b [v0,v1,v2]):w.cell? ⟨b,0,none⟩=some v0∧w.cell? ⟨b,1,none⟩=some v1∧w.cell? ⟨b,2,none⟩=some v2:=⟨h.2 0 _ rfl,h.2 1 _ rfl,h.2 2 _ rfl⟩
theorem Blk.c4{w:World}{b:Nat}{v0 v1 v2 v3:Value}(h:Blk w b [v0,v1,v2,v3]):w.cell? ⟨b,0,none⟩=some v0∧w.cell? ⟨b,1,none⟩=some v1∧w.cell? ⟨b,2,none⟩=some v2∧w.cell? ⟨b,3,none⟩=some v3:=⟨h.2 0 _ rfl,h.2 1 _ rfl,h.2 2 _ rfl,h.2 3 _ rfl⟩
theorem Blk.c9{w:World}{b:Nat}{v0 v1 v2 v3 v4 v5 v6 v7 v8:Value}(h:Blk w b [v0,v1,v2,v3,v4,v5,v6,v7,v8]):w.cell? ⟨b,0,none⟩=some v0∧w.cell? ⟨b,1,none⟩=some v1∧w.cell? ⟨b,2,none⟩=some v2∧w.cell? ⟨b,3,none⟩=some v3∧w.cell? ⟨b,4,none⟩=some v4∧w.cell? ⟨b,5,none⟩=some v5∧w.cell? ⟨b,6,none⟩=some v6∧w.cell? ⟨b,7,none⟩=some v7∧w.cell? ⟨b,8,none⟩=some v8:=⟨h.2 0 _ rfl,h.2 1 _ rfl,h.2 2 _ rfl,h.2 3 _ rfl,h.2 4 _ rfl,h.2 5 _ rfl,h.2 6 _ rfl,h.2 7 _ rfl,h.2 8 _ rfl⟩
theorem Blk.c11{w:World}{b:Nat}{v0 v1 v2 v3 v4 v5 v6 v7 v8 v9 v10:Value}(h:Blk w b [v0,v1,v2,v3,v4,v5,v6,v7,v8,v9,v10]):w.cell? ⟨b,0,none⟩=some v0∧w.cell? ⟨b,1,none⟩=some v1∧w.cell? ⟨b,2,none⟩=some v2∧w.cell? ⟨b,3,none⟩=some v3∧w.cell? ⟨b,4,none⟩=some v4∧w.cell? ⟨b,5,none⟩=some v5∧w.cell? ⟨b,6,none⟩=some v6∧w.cell? ⟨b,7,none⟩=some v7∧w.cell? ⟨b,8,none⟩=some v8∧w.cell? ⟨b,9,none⟩=some v9∧w.cell? ⟨b,10,none⟩=some v10:=⟨h.2 0 _ rfl,h.2 1 _ rfl,h.2 2 _ rfl,h.2 3 _ rfl,h.2 4 _ rfl,h.2 5 _ rfl,h.2 6 _ rfl,h.2 7 _ rfl,h.2 8 _ rfl,h.2 9 _ rfl,h.2 10 _ rfl⟩
def XM{α:Type}(T:TypeId)(sz:Nat)(enc:α→List Value)(l:List α)(w:World)(e:Ending)(w':World):Prop:=
 ∃A c,e= .returned (.slice A l.length c)∧l.length≤c∧Own w' w.heap.size T sz enc (.slice A l.length c) l∧Below w.heap.size w w'
theorem Own.sl'{α:Type}{w:World}{B:Nat}{T:TypeId}{sz:Nat}{enc:α→List Value}{A:Option Addr}{c:Nat}{l:List α}(he: ∀x,(enc x).length=sz)(h:Own w B T sz enc (.slice A l.length c) l):Sl w sz enc A l.length l:=h.sl he
theorem bl0(B:Nat)(w:World):Below B w w:=Below.refl B w
theorem blA{w w1:World}(h:Below w.heap.size w w1)(o:Obj):Below w.heap.size w (w1.alloc o):=Qf h o
theorem blS{B:Nat}{w w1:World}{p:Addr}(hp:B≤p.block)(h:Below B w w1)(u:Value):Below B w (w1.setCell p u):=Jc hp h u
theorem blD{B:Nat}{w w1:World}(h:Below B w w1):Below B w w1.drew:=Qw h
theorem blN{B:Nat}{a w:World}(h:Below B a w)(n:Nat):Below B a (w.drewN n):=Xz h n
theorem blF{w w1 w2:World}(h:Below w.heap.size w w1)(h2:Below w1.heap.size w1 w2):Below w.heap.size w w2:=Qa h h2
end Go.Proofs.YtgaimkihacljdaaGreat
/- The plain data and functions of the replay verifier: inputs, parts, codes. No program is named here. -/
namespace Go.Proofs.YtgaimkihacljdaaGreat
open Go.RowKit
structure Inp where
 s:Int
 p:Int
 z:Bool
structure Prt where
 c:Int
 m:Int
def Qe(x:Int):List Value:=[.int .i64 x]
def Qd(x:Inp):List Value:=[.int .i64 x.s,.int .i64 x.p,.bool x.z]
def QH(x:Prt):List Value:=[.int .i64 x.c,.int .i64 x.m]
def QD(x:Int):List Value:=[.int .u8 x]
theorem QoN(x:Int):(QD x).length=1:=rfl
theorem Qi(x:Int):(Qe x).length=1:=rfl
theorem Qh(x:Inp):(Qd x).length=3:=rfl
theorem QI(x:Prt):(QH x).length=2:=rfl
def JY(x y:Inp):Bool:=x.s == y.s && x.p == y.p && x.z == y.z
def QcT(x y:Int):Bool:=x == y
theorem XN(x y:Inp):JY x y=true↔x=y:=by
 obtain⟨a,b,c⟩:=x;obtain⟨d,e,f⟩:=y
 simp[JY,and_assoc]
theorem Qam(x y:Int):QcT x y=true↔x=y:=by simp[QcT]
def eqL{α:Type}(f:α→α→Bool):List α→List α→Bool
 |[],[]=>true
 |x :: l,y :: r=>f x y && eqL f l r
 |_,_=>false
theorem XD{α:Type}{f:α→α→Bool}(hf: ∀x y,f x y=true↔x=y): ∀l r:List α,eqL f l r=true↔l=r
 |[],[]=>by simp[eqL]
 |x :: l,[]=>by simp[eqL]
 |[],y :: r=>by simp[eqL]
 |x :: l,y :: r=>by simp[eqL,hf,XD hf l r]
theorem Qbq{α:Type}{f:α→α→Bool}(hf: ∀x y,f x y=true↔x=y){l r:List α}(h:l.length≠r.length):eqL f l r=false:=by
 cases e:eqL f l r with
 |false=>rfl
 |true=>exact absurd (congrArg List.length ((XD hf l r).1 e)) h
theorem Qbr{α:Type}{f:α→α→Bool}(hf: ∀x y,f x y=true↔x=y){l r:List α}{k:Nat}{x y:α}(hx:l[k]? =some x)(hy:r[k]? =some y)(h:f x y=false):eqL f l r=false:=by
 cases e:eqL f l r with
 |false=>rfl
 |true=>
  have:=(XD hf l r).1 e
  subst this
  rw[hx] at hy
  injection hy with hy
  rw[(hf x y).2 hy] at h
  cases h
theorem QbP{α:Type}{l r:List α}{k:Nat}{x y:α}(hx:l[k]? =some x)(hy:r[k]? =some y)(h:l.take k=r.take k)(hxy:x=y):l.take (k+1)=r.take (k+1):=by
 rw[List.take_add_one,List.take_add_one,h,hx,hy,hxy]
theorem Qbp{α:Type}{f:α→α→Bool}(hf: ∀x y,f x y=true↔x=y){l r:List α}{n:Nat}(h:l.take n=r.take n)(hl:l.length=n)(hr:r.length=n):eqL f l r=true:=by
 rw[List.take_of_length_le (by omega),List.take_of_length_le (by omega)] at h
 exact(XD hf l r).2 h
def QS{α:Type}(f:Int→α)(F:Nat)(k:Int)(n:Nat):List α:=(List.range n).map fun i=>f (k+(F*i:Nat))
theorem Qs{a b:Bool}(h:a=b):Ending.returned (.bool a)= .returned (.bool b):=by rw[h]
theorem QU{k:IntKind}{a b:Int}(h:a=b):Ending.returned (.int k a)= .returned (.int k b):=by rw[h]
end Go.Proofs.YtgaimkihacljdaaGreat
/- The laws' own conversions, comparisons and QS: each by its contract. Written by gen_conv.py. -/
namespace Go.Proofs.YtgaimkihacljdaaGreat
open Go.ChangeShapes Go.WideShapes Go.ChangeAt Go.RowKit
theorem Qv9(x:Inp)(w:World):Calls Sq.prog 22 #[.agg #[.int .i64 x.s,.int .i64 x.p,.bool x.z]] w fun e w'=>e= .returned (.agg #[.int .i64 x.s,.int .i64 x.p,.bool x.z])∧Below w.heap.size w w':=by
 go_enter Sq.func22, Tryz.ntmps22
 go_wp2
 exact bodyPost_ret (v:= .agg #[.int .i64 x.s,.int .i64 x.p,.bool x.z]) (by simp[results, Tryz.results22,go_sem]) rfl ⟨rfl,by repeat(first|exact Below.refl _ _|refine Below.alloc ?_ (by simp<;>omega) _)⟩
theorem QoU(x y:Inp)(w:World):Calls Sq.prog 30 #[.agg #[.int .i64 x.s,.int .i64 x.p,.bool x.z],.agg #[.int .i64 y.s,.int .i64 y.p,.bool y.z]] w fun e w'=>e= .returned (.bool (JY x y))∧Below w.heap.size w w':=by
 go_enter Sq.func30, Tryz.ntmps30
 go_wp2
 all_goals (go_ret;refine⟨?_,by repeat(first|exact Below.refl _ _|refine Below.alloc ?_ (by simp<;>omega) _)⟩;simp_all [JY])
set_option maxRecDepth 100000 in
theorem Qbo(A A':Option Addr)(n n' c c':Nat)(l l':List Inp)(w:World)(h:Sl w 3 Qd A n l)(h':Sl w 3 Qd A' n' l')(hn:n≤2097152)(hn':n'≤2097152):
 Calls Sq.prog 13 #[.slice A n c,.slice A' n' c'] w fun e w'=>e= .returned (.bool (eqL JY l l'))∧Below w.heap.size w w':=by
 by_cases hnn:n=n'
 ·subst hnn
  go_enter Sq.func13, Tryz.ntmps13
  go_wp2
  go_loopw [5] (fun i wr=>∃k:Nat,k≤n∧i= .int .i64 k∧l.take k=l'.take k∧Below w.heap.size w wr) (fun i _=>n - (intOf i).toNat)
  case atStart=>exact⟨0,Nat.zero_le _,rfl,rfl,Below.refl _ _⟩
  case round=>
   obtain⟨k,hk,rfl,ht,hb⟩:=hrel
   by_cases hlt:k<n
   ·obtain⟨b,off,x,rfl,hbl,hx,hc⟩:=(h.below hb).at_ hlt
    obtain⟨b',off',x',rfl,hbl',hx',hc'⟩:=(h'.below hb).at_ hlt
    have q0:wr.cell? ⟨b,off+k*3,none⟩=some (.int .i64 x.s):=hc 0 _ rfl
    have q1:wr.cell? ⟨b,off+k*3+1,none⟩=some (.int .i64 x.p):=hc 1 _ rfl
    have q2:wr.cell? ⟨b,off+k*3+2,none⟩=some (.bool x.z):=hc 2 _ rfl
    have r0:wr.cell? ⟨b',off'+k*3,none⟩=some (.int .i64 x'.s):=hc' 0 _ rfl
    have r1:wr.cell? ⟨b',off'+k*3+1,none⟩=some (.int .i64 x'.p):=hc' 1 _ rfl
    have r2:wr.cell? ⟨b',off'+k*3+2,none⟩=some (.bool x'.z):=hc' 2 _ rfl
    have Ht:=Lib.hid ht;clear ht
    have Hx:=Lib.hid hx;clear hx
    have Hx':=Lib.hid hx';clear hx'
    clear h h' hc hc'
    go_wp2
    go_still_tail 8,(by kernel_rfl)
    change wpList _ _ _ _ _ wr.drew
    have hb2:Below w.heap.size w wr.drew:=hb.drew
    generalize wr.drew=w2 at hb2
    go_wp2_with (go_at_call 30;refine(QoU _ _ _).mono ?_;rintro e w' ⟨rfl,hb1⟩)
    ·have ht:(!JY x x')=true:=by assumption
     go_ret
     exact⟨Qs (Qbr XN Hx.out Hx'.out (by simpa using ht)).symm,hb2.trans (hb1.mono hb2.size)⟩
    ·have ht:(!JY x x')=false:=by assumption
     go_roundw
     case rel=>exact⟨k+1,by omega,by go_num,QbP Hx.out Hx'.out Ht.out ((XN x x').1 (by simpa using ht)),hb2.trans (hb1.mono hb2.size)⟩
     case measure=>simp[intOf];omega
   ·have hkn:k=n:=by omega
    have H:=Lib.hid hkn;clear hkn
    go_wp2
    go_ret
    exact⟨Qs (Qbp XN (by rw[←H.out];exact ht) h.1 h'.1).symm,hb⟩
 ·have hnb:((n:Int) != (n':Int))=true:=by rw[bne_iff_ne];omega
  go_enter Sq.func13, Tryz.ntmps13
  go_wp2
  go_ret
  exact⟨Qs (Qbq XN (by rw[h.1,h'.1];exact hnn)).symm,Below.refl _ _⟩
theorem Sq.infoInput:(Sq.prog.info? 60).map (fun i=>(i.zero,i.size,i.bytes))=some (some (.agg #[.int .i64 0,.int .i64 0,.bool false]),3,24):=by kernel_rfl
set_option maxRecDepth 100000 in
theorem Xo(A:Option Addr)(n c:Nat)(l:List Inp)(w:World)(h:Sl w 3 Qd A n l)(hn:n≤2097152):
 Calls Sq.prog 8 #[.slice A n c] w (XM 60 3 Qd l w):=by
 obtain rfl:=h.len
 obtain⟨i0,hi,hz0,hz1,hz2⟩:=info_parts Sq.infoInput
 go_enter Sq.func8, Tryz.ntmps8
 go_wp2_with (at_make;refine wpList_make_full _ rfl _ _ 44 rfl w.heap.size 60 i0 (.agg #[.int .i64 0,.int .i64 0,.bool false]) 3 (Sq.und Tryz.underlying44) hi hz0 hz1 _ _ _ _ l.length rfl rfl rfl rfl ?c1 ?c2 ?c3 ?_)
 case c1=>rw[hz2];omega
 case c2=>unfold maxLen;omega
 case c3=>simp
 ·intro w1 ho hg
  have hb0:Below w.heap.size w w1:=QcN hg (Nat.le_refl _) (by intro k e;cases e)
  generalize hM:(madeCells _ _).toList=M at ho
  have HM:=Lib.hid ho.1
  clear hM hg
  go_wp2
  go_loopw [4] (fun i wr=>∃k:Nat,k≤l.length∧i= .int .i64 k∧wr.ownsRow w.heap.size 60 3 (.slice (some ⟨w.heap.size,0,none⟩) l.length l.length) l.length (Xf Qd 3 l M k)∧Below w.heap.size w wr) (fun i _=>l.length - (intOf i).toNat)
  case atStart=>exact⟨0,Nat.zero_le _,rfl,by rw[Qak];exact ho,hb0⟩
  case round=>
   obtain⟨k,hk,rfl,ho1,hb⟩:=hrel
   by_cases hlt:k<l.length
   ·obtain⟨b,off,x,rfl,hbl,hx,hc⟩:=(h.below hb).at_ hlt
    have q0:wr.cell? ⟨b,off+k*3,none⟩=some (.int .i64 x.s):=hc 0 _ rfl
    have q1:wr.cell? ⟨b,off+k*3+1,none⟩=some (.int .i64 x.p):=hc 1 _ rfl
    have q2:wr.cell? ⟨b,off+k*3+2,none⟩=some (.bool x.z):=hc 2 _ rfl
    have Hx:=Lib.hid hx;clear hx
    clear h hc ho hb0
    go_wp2_with (go_at_call 22;refine(Qv9 _ _).mono ?_;rintro e w' ⟨rfl,hb1⟩;have ho2:=ho1.kept (row:=none) (Qbt hb1) (.inr (by simp[Value.ownBlock]));obtain⟨⟨v0,c0⟩,f0⟩:=Zk ho2 hlt 0 (by omega);obtain⟨⟨v1,c1⟩,f1⟩:=Zk ho2 hlt 1 (by omega);obtain⟨⟨v2,c2⟩,f2⟩:=Zk ho2 hlt 2 (by omega);simp only[Nat.add_zero] at c0 f0)
    go_roundw
    case rel=>
     have hp:=J3 (Qd x) _ (k*3) w' ho2
     rw[QaD Qh HM.out Hx.out] at hp
     exact⟨k+1,by omega,by go_num,hp.1,((((hb.trans (hb1.mono hb.size)).setCell (Nat.le_refl _) _).setCell (Nat.le_refl _) _).setCell (Nat.le_refl _) _)⟩
    case measure=>simp[intOf];omega
   ·have hkn:k=l.length:=by omega
    have H:=Lib.hid hkn;clear hkn
    go_wp2
    go_ret
    exact⟨_,_,rfl,Nat.le_refl _,by rw[H.out,Qaj HM.out] at ho1;exact ho1,hb⟩
end Go.Proofs.YtgaimkihacljdaaGreat
/- The laws' own conversions, comparisons and QS at lists of ints; the sizes; the comparisons of the second laws. -/
namespace Go.Proofs.YtgaimkihacljdaaGreat
open Go.ChangeShapes Go.WideShapes Go.ChangeAt Go.RowKit
theorem Jg{w:World}{b off k:Nat}{x:Int}(hc: ∀j v,(Qe x)[j]? =some v→w.cell? ⟨b,off+k*1+j,none⟩=some v):w.cell? ⟨b,off+k,none⟩=some (.int .i64 x):=by
 have:=hc 0 _ rfl
 simpa using this
theorem Sq.infoInt:(Sq.prog.info? 3).map (fun i=>(i.zero,i.size,i.bytes))=some (some (.int .i64 0),1,8):=by kernel_rfl
set_option maxRecDepth 100000 in
theorem Qwa(A:Option Addr)(n c:Nat)(l:List Int)(w:World)(h:Sl w 1 Qe A n l)(hn:n≤2097152):
 Calls Sq.prog 9 #[.slice A n c] w (XM 3 1 Qe l w):=by
 obtain rfl:=h.len
 obtain⟨i0,hi,hz0,hz1,hz2⟩:=info_parts Sq.infoInt
 go_enter Sq.func9, Tryz.ntmps9
 go_wp2_with (at_make;refine wpList_make_full _ rfl _ _ 30 rfl w.heap.size 3 i0 (.int .i64 0) 1 (Sq.und Tryz.underlying30) hi hz0 hz1 _ _ _ _ l.length rfl rfl rfl rfl ?c1 ?c2 ?c3 ?_)
 case c1=>rw[hz2];omega
 case c2=>unfold maxLen;omega
 case c3=>simp
 ·intro w1 ho hg
  have hb0:Below w.heap.size w w1:=QcN hg (Nat.le_refl _) (by intro k e;cases e)
  generalize hM:(madeCells _ _).toList=M at ho
  have HM:=Lib.hid ho.1
  clear hM hg
  go_wp2
  go_loopw [4] (fun i wr=>∃k:Nat,k≤l.length∧i= .int .i64 k∧wr.ownsRow w.heap.size 3 1 (.slice (some ⟨w.heap.size,0,none⟩) l.length l.length) l.length (Xf Qe 1 l M k)∧Below w.heap.size w wr) (fun i _=>l.length - (intOf i).toNat)
  case atStart=>exact⟨0,Nat.zero_le _,rfl,by rw[Qak];exact ho,hb0⟩
  case round=>
   obtain⟨k,hk,rfl,ho1,hb⟩:=hrel
   by_cases hlt:k<l.length
   ·obtain⟨b,off,x,rfl,hbl,hx,hc⟩:=(h.below hb).at_ hlt
    have q0:=Jg hc
    have Hx:=Lib.hid hx;clear hx
    obtain⟨⟨v0,c0⟩,f0⟩:=Zk ho1 hlt 0 (by omega)
    simp only[Nat.add_zero,Nat.mul_one] at c0 f0
    clear h hc ho hb0
    go_wp2
    go_roundw
    case rel=>
     have hp:=J3 (Qe x) _ (k*1) wr ho1
     rw[QaD Qi HM.out Hx.out] at hp
     simp only[Nat.mul_one] at hp
     exact⟨k+1,by omega,by go_num,hp.1,hb.setCell (Nat.le_refl _) _⟩
    case measure=>simp[intOf];omega
   ·have hkn:k=l.length:=by omega
    have H:=Lib.hid hkn;clear hkn
    go_wp2
    go_ret
    exact⟨_,_,rfl,Nat.le_refl _,by rw[H.out,Qaj HM.out] at ho1;exact ho1,hb⟩
set_option maxRecDepth 100000 in
theorem QoV(A A':Option Addr)(n n' c c':Nat)(l l':List Int)(w:World)(h:Sl w 1 Qe A n l)(h':Sl w 1 Qe A' n' l')(hn:n≤2097152)(hn':n'≤2097152):
 Calls Sq.prog 14 #[.slice A n c,.slice A' n' c'] w fun e w'=>e= .returned (.bool (eqL QcT l l'))∧Below w.heap.size w w':=by
 by_cases hnn:n=n'
 ·subst hnn
  go_enter Sq.func14, Tryz.ntmps14
  go_wp2
  go_loopw [5] (fun i wr=>∃k:Nat,k≤n∧i= .int .i64 k∧l.take k=l'.take k∧Below w.heap.size w wr) (fun i _=>n - (intOf i).toNat)
  case atStart=>exact⟨0,Nat.zero_le _,rfl,rfl,Below.refl _ _⟩
  case round=>
   obtain⟨k,hk,rfl,ht,hb⟩:=hrel
   by_cases hlt:k<n
   ·obtain⟨b,off,x,rfl,hbl,hx,hc⟩:=(h.below hb).at_ hlt
    obtain⟨b',off',x',rfl,hbl',hx',hc'⟩:=(h'.below hb).at_ hlt
    have q0:=Jg hc
    have r0:=Jg hc'
    have hlti:(k:Int)<(n:Int):=by omega
    have Ht:=Lib.hid ht;clear ht
    have Hx:=Lib.hid hx;clear hx
    have Hx':=Lib.hid hx';clear hx'
    clear h h' hc hc'
    cases hq:(x != x') with
    |true=>
     go_wp2
     go_quiet (fail)
     go_wp2
     go_ret
     exact⟨Qs (Qbr Qam Hx.out Hx'.out (by simpa [QcT] using hq)).symm,by repeat(first|exact hb|refine Xz ?_ _)⟩
    |false=>
     go_wp2
     go_quiet (fail)
     go_wp2
     go_roundw
     case rel=>exact⟨k+1,by omega,by go_num,QbP Hx.out Hx'.out Ht.out (by simpa using hq),by repeat(first|exact hb|refine Xz ?_ _)⟩
     case measure=>simp[intOf];omega
   ·have hkn:k=n:=by omega
    have H:=Lib.hid hkn;clear hkn
    go_wp2
    go_ret
    exact⟨Qs (Qbp Qam (by rw[←H.out];exact ht) h.1 h'.1).symm,hb⟩
 ·have hnb:((n:Int) != (n':Int))=true:=by rw[bne_iff_ne];omega
  go_enter Sq.func14, Tryz.ntmps14
  go_wp2
  go_ret
  exact⟨Qs (Qbq Qam (by rw[h.1,h'.1];exact hnn)).symm,Below.refl _ _⟩
theorem Qc9(n lo hi:Int)(w:World):Calls Sq.prog 51 #[.int .i64 n,.int .i64 lo,.int .i64 hi] w fun e w'=>e= .returned (.bool (decide (lo≤n) && decide (n≤hi)))∧w=w':=by
 go_enter Sq.func51, Tryz.ntmps51
 by_cases h1:lo≤n<;>by_cases h2:n≤hi
 all_goals
  go_wp2
  go_ret
  exact⟨by simp[h1,h2],rfl⟩
theorem Qc3(n lo hi:Int)(w:World):Calls Sq.prog 36 #[.int .i64 n,.int .i64 lo,.int .i64 hi] w fun e w'=>e= .returned (.bool (decide (lo≤n) && decide (n≤hi)))∧w=w':=by
 go_enter Sq.func36, Tryz.ntmps36
 by_cases h1:lo≤n<;>by_cases h2:n≤hi
 all_goals
  go_wp2
  go_ret
  exact⟨by simp[h1,h2],rfl⟩
def szL(n:Nat)(k:Int):Int:=if k - n<0 then -1 else k - n
theorem JK(A:Option Addr)(n c:Nat)(k:Int)(w:World)(hk0: -1≤k)(hk1:k≤2097152)(hn:n≤9223372036854775807):
 Calls Sq.prog 5 #[.slice A n c,.int .i64 k] w fun e w'=>e= .returned (.int .i64 (szL n k))∧w=w':=by
 go_enter Sq.func5, Tryz.ntmps5
 by_cases h:k - n<0
 all_goals
  go_wp2
  go_ret
  exact⟨QU (by unfold szL;split<;>omega),rfl⟩
end Go.Proofs.YtgaimkihacljdaaGreat
/- Inputs and their codes: the reference's and the program's functions, each by its contract. -/
namespace Go.Proofs.YtgaimkihacljdaaGreat
open Go.ChangeShapes Go.WideShapes Go.ChangeAt Go.RowKit
def QT(x:Inp):Bool:=if x.z then x.s == 0 && x.p == 0 else decide (-1≤x.s) && decide (x.s≤1) && (decide (0≤x.p) && decide (x.p≤2))
def code(x:Inp):Int:=if x.z then 9 else 3*x.p+x.s+1
theorem Qcd{x:Inp}(h:QT x=true): -1≤x.s∧x.s≤1∧0≤x.p∧x.p≤2∧(x.z=true→x.s=0∧x.p=0):=by
 obtain⟨s,p,z⟩:=x
 cases z<;>simp[QT] at h⊢<;>omega
theorem QbM(x:Inp)(w:World):Calls Sq.prog 75 #[.agg #[.int .i64 x.s,.int .i64 x.p,.bool x.z]] w fun e w'=>e= .returned (.bool (QT x))∧Below w.heap.size w w':=by
 obtain⟨s,p,z⟩:=x
 cases z
 all_goals
  go_enter Sq.func75, Tryz.ntmps75
  go_wp2_with (go_at_call 51;refine(Qc9 _ _ _ _).mono ?_;rintro e w' ⟨rfl,rfl⟩)
  all_goals (go_ret;refine⟨?_,by repeat(first|exact Below.refl _ _|refine Qa ?_ (by assumption)|refine Below.alloc ?_ (by simp<;>omega) _)⟩;first|(simp_all [QT];done)|(simp_all [QT];omega))
theorem Qap(x:Inp)(w:World):Calls Sq.prog 64 #[.agg #[.int .i64 x.s,.int .i64 x.p,.bool x.z]] w fun e w'=>e= .returned (.bool (QT x))∧Below w.heap.size w w':=by
 obtain⟨s,p,z⟩:=x
 cases z
 all_goals
  go_enter Sq.func64, Tryz.ntmps64
  go_wp2_with (go_at_call 36;refine(Qc3 _ _ _ _).mono ?_;rintro e w' ⟨rfl,rfl⟩)
  all_goals (go_ret;refine⟨?_,by repeat(first|exact Below.refl _ _|refine Qa ?_ (by assumption)|refine Below.alloc ?_ (by simp<;>omega) _)⟩;first|(simp_all [QT];done)|(simp_all [QT];omega))
end Go.Proofs.YtgaimkihacljdaaGreat
/- Lists of inputs: are they valid and few enough? The closure handed to slices.ContainsFunc. -/
namespace Go.Proofs.YtgaimkihacljdaaGreat
open Go.ChangeShapes Go.WideShapes Go.ChangeAt Go.RowKit
def Qfl(b:Bool)(w:World)(e:Ending)(w':World):Prop:=∃r:Int,e= .returned (.int .i64 r)∧decide (0≤r)=b∧Below w.heap.size w w'
theorem Qbj{α:Type}{p:α→Bool}{l:List α}{k:Nat}{x:α}(hx:l[k]? =some x)(h:(l.take k).all p=true)(hp:p x=true):(l.take (k+1)).all p=true:=by
 rw[List.take_add_one,hx,List.all_append,h];simp[hp]
theorem Qbi{α:Type}{p:α→Bool}{l:List α}{k:Nat}{x:α}(hx:l[k]? =some x)(hp:p x=false):l.all p=false:=by
 rw[List.all_eq_false]
 exact⟨x,List.mem_of_getElem? hx,by simp[hp]⟩
end Go.Proofs.YtgaimkihacljdaaGreat
/- Replays: is one valid? -/
namespace Go.Proofs.YtgaimkihacljdaaGreat
open Go.ChangeShapes Go.WideShapes Go.ChangeAt Go.RowKit
def inR(lo hi n:Int):Bool:=decide (lo≤n) && decide (n≤hi)
theorem Q5{lo hi n:Int}:inR lo hi n=true↔lo≤n∧n≤hi:=by simp[inR]
theorem Xt(n lo hi:Int)(w:World):Calls Sq.prog 51 #[.int .i64 n,.int .i64 lo,.int .i64 hi] w fun e w'=>e= .returned (.bool (inR lo hi n))∧w=w':=Qc9 n lo hi w
theorem QZ(n lo hi:Int)(w:World):Calls Sq.prog 36 #[.int .i64 n,.int .i64 lo,.int .i64 hi] w fun e w'=>e= .returned (.bool (inR lo hi n))∧w=w':=Qc3 n lo hi w
end Go.Proofs.YtgaimkihacljdaaGreat
/- Replays: the laws' sizes, conversions, comparisons, QS. -/
namespace Go.Proofs.YtgaimkihacljdaaGreat
open Go.ChangeShapes Go.WideShapes Go.ChangeAt Go.RowKit
theorem Qfc{n:Nat}{k:Int}(h:k≤1048576)(h0: -1≤k): -1≤szL n k∧szL n k≤1048576:=by unfold szL;split<;>omega
theorem QbX(A A':Option Addr)(n n' c c':Nat)(l:List Int)(w:World)(h:Sl w 1 Qe A n l)(h':Sl w 1 Qe A' n' l)(hn:n≤2097152)(hn':n'≤2097152):
 Calls Sq.prog 14 #[.slice A n c,.slice A' n' c'] w fun e w'=>e= .returned (.bool true)∧Below w.heap.size w w':=
 (QoV A A' n n' c c' l l w h h' hn hn').mono fun e w' ⟨h1,h2⟩=>⟨by rw[h1,(XD Qam l l).2 rfl],h2⟩
end Go.Proofs.YtgaimkihacljdaaGreat
/- append onto a slice of the call's own, from whatever slice reads as a list: one law; a slice literal's list. -/
namespace Go.Proofs.YtgaimkihacljdaaGreat
open Go.ChangeShapes Go.WideShapes Go.ChangeAt Go.RowKit
theorem Sl.cells{α:Type}{w:World}{sz:Nat}{enc:α→List Value}{ad:Addr}{n:Nat}{l:List α}(he: ∀x,(enc x).length=sz)(hsz:0<sz)(h:Sl w sz enc (some ad) n l):
 ∀j u,(l.flatMap enc)[j]? =some u→w.cell? (ad.add j)=some u:=by
 intro j u hu
 have hj:j<l.length*sz:=by
  have:=(List.getElem?_eq_some_iff.1 hu).1
  rwa [Qa2 he] at this
 have hk:j/sz<l.length:=Nat.div_lt_of_lt_mul (by rwa [Nat.mul_comm] at hj)
 have hi:j % sz<sz:=Nat.mod_lt _ hsz
 obtain⟨b,off,x,e,hb,hx,hc⟩:=h.at_ (k:=j/sz) (by rw[←h.len];exact hk)
 injection e with e
 subst e
 have hv:(enc x)[j % sz]? =some ((enc x)[j % sz]'(by rw[he];exact hi)):=List.getElem?_eq_getElem _
 have h1:=JO he l (j/sz) x (j % sz) _ hx hv
 have hjj:j/sz*sz+j % sz=j:=by rw[Nat.mul_comm];exact Nat.div_add_mod j sz
 rw[hjj,hu] at h1
 have h2:=hc _ _ hv
 rw[add_plain,←hjj,←Nat.add_assoc,h2,←h1]
theorem Xp{P:Program}{w:World}{ops:Array Oper}{rest:List Oper}{o:Oper}{a:Act}{Q:Exit→Act→World→Prop}{α:Type}{enc:α→List Value}(hgd:o.guard=none)(s x:Operand)(t:TypeId)
 (ho:o.op= .call { callee:= .builtin .append,args:=#[s,x],argTypes:=#[t,t]})
 (base:Nat)(e:TypeId)(i:TypeInfo)(z:Value)(size bytes:Nat)(ht:P.underlying t=some (.slice e))(hi:P.info? e=some i)(hz:i.zero=some z)
 (hsize:i.size=size)(hby:i.bytes=bytes)(hzs:z.cells.size=size)(hsz:0<size)(he: ∀y,(enc y).length=size)(hone: ∀y,∀u∈enc y,u.oneCell'=true)
 (v:Value)(l l2:List α)(hs:a.eval s=v)(hown:Own w base e size enc v l)(A:Option Addr)(m c:Nat)(hx:a.eval x= .slice A m c)(hsl:Sl w size enc A m l2)(hA:A=none→c=0)
 (h63:l.length+m≤maxLen)(hbytes:(l.length+m)*bytes≤140737488355328)(hbase:base≤w.heap.size)
 (h: ∀v' w',Own w' base e size enc v' (l++l2)→w.grownBy w' v.ownBlock→wpList P ops Q rest (a.put o.dst v') w'):wpList P ops Q (o :: rest) a w:=by
 cases A with
 |none=>
  have hm:m=0:=by
   rcases Nat.eq_zero_or_pos m with h0|h0
   ·exact h0
   ·obtain⟨b,off,e',_⟩:=hsl.2 h0
    cases e'
  have hl2:l2= []:=List.length_eq_zero_iff.1 (hsl.len.trans hm)
  subst hm
  rw[hA rfl] at hx
  refine wpList_append_own_none hgd s x t ho base e i size ht hi v _ _ hs hown hx (h v w ?_ (Ql _ _))
  rw[hl2,List.append_nil]
  exact hown
 |some ad=>
  have hn:l2.length=m:=hsl.len
  refine wpList_append_own w hgd s x t ho base e i z size bytes ht hi hz hsize hby hzs hsz v _ _ hs hown ad m c (l2.flatMap enc) hx (by rw[Qa2 he,hn]) (hsl.cells he hsz) ?_ h63 hbytes hbase ?_
  ·intro u hu
   obtain⟨y,_,hy⟩:=List.mem_flatMap.1 hu
   exact hone y u hy
  ·intro v' w' h1 h2 _
   refine h v' w' ?_ h2
   unfold Own
   rw[List.length_append,hn,List.flatMap_append]
   exact h1
theorem Sl.one{α:Type}{enc:α→List Value}{sz:Nat}(w:World)(x:α)(T:TypeId)(cs:Array Value)(hcs:cs.toList=enc x):Sl (w.alloc (.cells cs T)) sz enc (some ⟨w.heap.size,0,none⟩) 1 [x]:=by
 refine⟨rfl,fun _=>⟨w.heap.size,0,rfl,by simp,fun k y hk j v hv=>?_⟩⟩
 have hk0:k=0:=by
  have:=(List.getElem?_eq_some_iff.1 hk).1
  simpa using this
 subst hk0
 simp only[List.getElem?_cons_zero,Option.some.injEq] at hk
 subst hk
 have:=(Blk.new w cs T).2 j v (by rw[hcs];exact hv)
 simpa using this
theorem JH(x:Int): ∀u∈Qe x,u.oneCell'=true:=by intro u hu;simp[Qe] at hu;subst hu;rfl
end Go.Proofs.YtgaimkihacljdaaGreat
/- append onto a slice of the call's own: one law more, that tells where the new slice lies. -/
namespace Go.Proofs.YtgaimkihacljdaaGreat
open Go.ChangeShapes Go.WideShapes Go.ChangeAt Go.RowKit
section
variable {P : Program} {w : World} {α : Type} {enc : α → List Value}
end
end Go.Proofs.YtgaimkihacljdaaGreat
/- Words for walks: a block known whole; a world put under one name; quiet calls. No program is named here. -/
namespace Go.Proofs.YtgaimkihacljdaaGreat
open Go.ChangeShapes Go.WideShapes Go.ChangeAt Go.RowKit
def Bk(w:World)(g:Nat)(t:TypeId)(cs:Array Value):Prop:=w.heap[g]? =some (.cells cs t (0,0))
section
variable {w w' : World} {g : Nat} {t : TypeId} {cs : Array Value}
theorem Bk.lt(h:Bk w g t cs):g<w.heap.size:=by
 rcases Nat.lt_or_ge g w.heap.size with hlt|hge
 ·exact hlt
 ·unfold Bk at h;rw[Array.getElem?_eq_none hge] at h;cases h
theorem Bk.cell(h:Bk w g t cs)(i:Nat):w.cell? ⟨g,i,none⟩=cs[i]? :=cell_of_row w g i cs t (0,0) h
theorem Bk.fr(h:Bk w g t cs)(i:Nat):w.frozen? ⟨g,i,none⟩=false:=by
 unfold Bk at h
 simp[World.frozen?,h]
theorem Bk.new(w:World)(t:TypeId)(cs:Array Value){g:Nat}(hg:w.heap.size=g):Bk (w.alloc (.cells cs t)) g t cs:=by
 subst hg;exact heap_alloc_new w _
theorem Bk.alloc(h:Bk w g t cs)(o:Obj):Bk (w.alloc o) g t cs:=(Below.heap_alloc w o g h.lt).trans h
theorem Bk.drew(h:Bk w g t cs):Bk w.drew g t cs:=h
theorem Bk.drewN(h:Bk w g t cs)(n:Nat):Bk (w.drewN n) g t cs:=h
theorem Bk.later(h:Bk w g t cs)(hb:Below w.heap.size w w'):Bk w' g t cs:=(hb.block g h.lt).trans h
theorem Bk.below{B:Nat}(h:Bk w g t cs)(hb:Below B w w')(hg:g<B):Bk w' g t cs:=(hb.block g hg).trans h
theorem Bk.grown{row:Option Nat}(h:Bk w g t cs)(hb:w.grownBy w' row)(hg:some g≠row):Bk w' g t cs:=(hb.block g h.lt hg).trans h
theorem Bk.set_(h:Bk w g t cs)(i:Nat)(u:Value):Bk (w.setCell ⟨g,i,none⟩ u) g t (cs.setIfInBounds i u):=by
 unfold Bk at h⊢
 simp[World.setCell,Array.getElem?_modify,h]
structure QaW(cs:Array Value)(i:Nat)(u:Value)(cs':Array Value):Prop where
 e:cs.setIfInBounds i u=cs'
theorem Bk.set'{cs':Array Value}{i:Nat}{u:Value}(h:Bk w g t cs)(e:QaW cs i u cs'):Bk (w.setCell ⟨g,i,none⟩ u) g t cs':=e.e ▸ h.set_ i u
theorem Bk.far(h:Bk w g t cs){p:Addr}(hp:g≠p.block)(u:Value):Bk (w.setCell p u) g t cs:=(Below.heap_setCell w p u g hp).trans h
theorem kN(w:World)(t:TypeId)(cs:Array Value){g:Nat}(hg:w.heap.size=g):Bk (w.alloc (.cells cs t)) g t cs:=Bk.new w t cs hg
theorem kA(h:Bk w g t cs)(o:Obj):Bk (w.alloc o) g t cs:=h.alloc o
theorem kD(h:Bk w g t cs):Bk w.drew g t cs:=h
theorem kW(h:Bk w g t cs)(n:Nat):Bk (w.drewN n) g t cs:=h
theorem kF(h:Bk w g t cs){p:Addr}(hp:g≠p.block)(u:Value):Bk (w.setCell p u) g t cs:=h.far hp u
theorem kL(h:Bk w g t cs)(hb:Below w.heap.size w w'):Bk w' g t cs:=h.later hb
theorem kG{row:Option Nat}(h:Bk w g t cs)(hb:w.grownBy w' row)(hg:some g≠row):Bk w' g t cs:=h.grown hb hg
theorem Bk.blk(h:Bk w g t cs):Blk w g cs.toList:=⟨h.lt,fun j v hv=>by rw[h.cell];simpa using hv⟩
end
theorem Qbs{p:Nat→Bool}{k:Nat}(h: ∀j,j<k→p j=false)(hk:p k=false): ∀j,j<k+1→p j=false:=fun j hj=>by
 rcases Nat.lt_or_ge j k with h1|h1
 ·exact h j h1
 ·rw[show j=k by omega];exact hk
theorem Xq{P:Program}{c:Code}{Q:Exit→Act→World→Prop}{a:Act}{w0:World}(F:World→Prop)(h0:F w0)(h: ∀w1,F w1→Code.wp P c Q a w1):Code.wp P c Q a w0:=h w0 h0
theorem stl{P:Program}{f:FuncId}{args:Array Value}{w:World}{v:Value}(h:Calls P f args w fun e w'=>e= .returned v∧w=w'):Calls P f args w fun e w'=>e= .returned v∧w'=w:=h.mono fun _ _ h=>⟨h.1,h.2.symm⟩
theorem Bk.c1{w:World}{g:Nat}{t:TypeId}{v0:Value}(h:Bk w g t #[v0]):(w.cell? ⟨g,0,none⟩=some v0)∧∀i,w.frozen? ⟨g,i,none⟩=false:=⟨h.cell 0,h.fr⟩
theorem Bk.c2{w:World}{g:Nat}{t:TypeId}{v0 v1:Value}(h:Bk w g t #[v0,v1]):(w.cell? ⟨g,0,none⟩=some v0∧w.cell? ⟨g,1,none⟩=some v1)∧∀i,w.frozen? ⟨g,i,none⟩=false:=⟨⟨h.cell 0,h.cell 1⟩,h.fr⟩
theorem Bk.c3{w:World}{g:Nat}{t:TypeId}{v0 v1 v2:Value}(h:Bk w g t #[v0,v1,v2]):(w.cell? ⟨g,0,none⟩=some v0∧w.cell? ⟨g,1,none⟩=some v1∧w.cell? ⟨g,2,none⟩=some v2)∧∀i,w.frozen? ⟨g,i,none⟩=false:=⟨⟨h.cell 0,h.cell 1,h.cell 2⟩,h.fr⟩
theorem Bk.c4{w:World}{g:Nat}{t:TypeId}{v0 v1 v2 v3:Value}(h:Bk w g t #[v0,v1,v2,v3]):(w.cell? ⟨g,0,none⟩=some v0∧w.cell? ⟨g,1,none⟩=some v1∧w.cell? ⟨g,2,none⟩=some v2∧w.cell? ⟨g,3,none⟩=some v3)∧∀i,w.frozen? ⟨g,i,none⟩=false:=⟨⟨h.cell 0,h.cell 1,h.cell 2,h.cell 3⟩,h.fr⟩
theorem Bk.c9{w:World}{g:Nat}{t:TypeId}{v0 v1 v2 v3 v4 v5 v6 v7 v8:Value}(h:Bk w g t #[v0,v1,v2,v3,v4,v5,v6,v7,v8]):(w.cell? ⟨g,0,none⟩=some v0∧w.cell? ⟨g,1,none⟩=some v1∧w.cell? ⟨g,2,none⟩=some v2∧w.cell? ⟨g,3,none⟩=some v3∧w.cell? ⟨g,4,none⟩=some v4∧w.cell? ⟨g,5,none⟩=some v5∧w.cell? ⟨g,6,none⟩=some v6∧w.cell? ⟨g,7,none⟩=some v7∧w.cell? ⟨g,8,none⟩=some v8)∧∀i,w.frozen? ⟨g,i,none⟩=false:=⟨⟨h.cell 0,h.cell 1,h.cell 2,h.cell 3,h.cell 4,h.cell 5,h.cell 6,h.cell 7,h.cell 8⟩,h.fr⟩
theorem Bk.c11{w:World}{g:Nat}{t:TypeId}{v0 v1 v2 v3 v4 v5 v6 v7 v8 v9 v10:Value}(h:Bk w g t #[v0,v1,v2,v3,v4,v5,v6,v7,v8,v9,v10]):(w.cell? ⟨g,0,none⟩=some v0∧w.cell? ⟨g,1,none⟩=some v1∧w.cell? ⟨g,2,none⟩=some v2∧w.cell? ⟨g,3,none⟩=some v3∧w.cell? ⟨g,4,none⟩=some v4∧w.cell? ⟨g,5,none⟩=some v5∧w.cell? ⟨g,6,none⟩=some v6∧w.cell? ⟨g,7,none⟩=some v7∧w.cell? ⟨g,8,none⟩=some v8∧w.cell? ⟨g,9,none⟩=some v9∧w.cell? ⟨g,10,none⟩=some v10)∧∀i,w.frozen? ⟨g,i,none⟩=false:=⟨⟨h.cell 0,h.cell 1,h.cell 2,h.cell 3,h.cell 4,h.cell 5,h.cell 6,h.cell 7,h.cell 8,h.cell 9,h.cell 10⟩,h.fr⟩
end Go.Proofs.YtgaimkihacljdaaGreat
