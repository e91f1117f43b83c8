/- Lemmas: Prts PrtsR PrtsI PrtsJ RInp Rept RInpI PLaw Same. -/
import Derived.Test.YtgaimkihacljdaaGreatZBase
import Derived.Deep.DeepMust
import Derived.Lib.SlicesMore
import Derived.Deep.LoopGhost
import Derived.Shelf.Bits.Mul64
import Derived.Laws.CopyOwn
import Derived.Deep.RegionLaw
/- Parts of inputs: the reference's (a slice that grows at its end), by its contract. -/
namespace Go.Proofs.YtgaimkihacljdaaGreat
open Go.ChangeShapes Go.WideShapes Go.ChangeAt Go.RowKit
end Go.Proofs.YtgaimkihacljdaaGreat
/- slices.Reverse at []Part: a row of the call's own is turned round. -/
namespace Go.Proofs.YtgaimkihacljdaaGreat
open Go.ChangeShapes Go.WideShapes Go.ChangeAt Go.RowKit
theorem Qld(a:List Value): ∀(vs b:List Value) (p:Nat),JB (a++b) (a.length+p) vs=a++JB b p vs
 |[],_,_=>rfl
 |v :: vs,b,p=>by
  rw[JB,JB,List.set_append_right _ _ (by omega),Nat.add_sub_cancel_left,Nat.add_assoc]
  exact Qld a vs _ _
theorem Qlb: ∀(vs a c b:List Value),a.length=vs.length→JB (c++(a++b)) c.length vs=c++(vs++b)
 |[],a,c,b,h=>by cases a with
  |nil=>rfl
  |cons=>simp at h
 |v :: vs,[],c,b,h=>by simp at h
 |v :: vs,x :: a,c,b,h=>by
  rw[JB,List.set_append_right _ _ (Nat.le_refl _),Nat.sub_self]
  have:=Qlb vs a (c++ [v]) b (by simpa using h)
  simpa using this
theorem Qe5{α:Type}{enc:α→List Value}{sz:Nat}(he: ∀x,(enc x).length=sz): ∀(l:List α) (k:Nat) (y:α),k<l.length→JB (l.flatMap enc) (k*sz) (enc y)=(l.set k y).flatMap enc
 |[],k,y,h=>by simp at h
 |x :: l,0,y,_=>by
  have:=Qlb (enc y) (enc x) [] (l.flatMap enc) (by rw[he,he])
  simpa using this
 |x :: l,k+1,y,h=>by
  have h1:=Qld (enc x) (enc y) (l.flatMap enc) (k*sz)
  rw[he] at h1
  simp only[List.flatMap_cons,List.set_cons_succ]
  rw[show(k+1)*sz=sz+k*sz by rw[Nat.add_mul,Nat.one_mul,Nat.add_comm],h1,Qe5 he l k y (by simpa using h)]
theorem Own.put{α:Type}{enc:α→List Value}{sz:Nat}(he: ∀x,(enc x).length=sz){w:World}{B:Nat}{T:TypeId}{g n cap:Nat}{l:List α}(h:Own w B T sz enc (.slice (some ⟨g,0,none⟩) n cap) l)(k:Nat)(hk:k<l.length)(y:α):
 Own (QbG w g (k*sz) (enc y)) B T sz enc (.slice (some ⟨g,0,none⟩) n cap) (l.set k y)∧w.grownBy (QbG w g (k*sz) (enc y)) (some g):=by
 obtain⟨A',c',e,_⟩:=h.form
 have hn:n=l.length:=by injection e
 subst hn
 obtain⟨h1,h2⟩:=J3 (enc y) _ (k*sz) w h
 rw[Qe5 he l k y hk] at h1
 refine⟨?_,h2⟩
 unfold Own
 rw[List.length_set]
 exact h1
def QaV{α:Type}(l l':List α)(i:Nat):Prop:=l'.length=l.length∧∀m,m<l.length→l'[m]? =if m<i∨l.length<m+1+i then l[l.length - 1 - m]? else l[m]?
theorem QaV.zero{α:Type}(l:List α):QaV l l 0:=⟨rfl,fun m hm=>by rw[if_neg (by omega)]⟩
theorem QaV.step{α:Type}{l l':List α}{i j:Nat}{x y:α}(h:QaV l l' i)(hj:i+j+1=l.length)(hij:i<j)(hx:l'[i]? =some x)(hy:l'[j]? =some y):QaV l ((l'.set i y).set j x) (i+1):=by
 refine⟨by simp[h.1],fun m hm=>?_⟩
 have h0:=h.1
 by_cases h1:m=j
 ·subst h1
  rw[List.getElem?_set_self (by simp;omega),if_pos (by omega),←hx,h.2 i (by omega),if_neg (by omega)]
  congr 1
  omega
 ·rw[List.getElem?_set_ne (fun e=>h1 e.symm)]
  by_cases h2:m=i
  ·subst h2
   rw[List.getElem?_set_self (by omega),if_pos (by omega),←hy,h.2 j (by omega),if_neg (by omega)]
   congr 1
   omega
  ·rw[List.getElem?_set_ne (fun e=>h2 e.symm),h.2 m hm]
   by_cases h3:m<i∨l.length<m+1+i
   ·rw[if_pos h3,if_pos (by omega)]
   ·rw[if_neg h3,if_neg (by omega)]
theorem QaV.done{α:Type}{l l':List α}{i:Nat}(h:QaV l l' i)(hi:l.length≤2*i+1):l'=l.reverse:=by
 apply List.ext_getElem?
 intro m
 by_cases hm:m<l.length
 ·rw[h.2 m hm,List.getElem?_reverse hm]
  split
  ·rfl
  ·congr 1;omega
 ·rw[List.getElem?_eq_none (by rw[h.1];omega),List.getElem?_eq_none (by simp;omega)]
end Go.Proofs.YtgaimkihacljdaaGreat
/- Parts of inputs: the program's linked list, by its contract. -/
namespace Go.Proofs.YtgaimkihacljdaaGreat
open Go.ChangeShapes Go.WideShapes Go.ChangeAt Go.RowKit
end Go.Proofs.YtgaimkihacljdaaGreat
/- ReplayParts: the reference's and the program's. -/
namespace Go.Proofs.YtgaimkihacljdaaGreat
open Go.ChangeShapes Go.WideShapes Go.ChangeAt Go.RowKit
end Go.Proofs.YtgaimkihacljdaaGreat
/- ReplayInputs: the plain function; the reference's by its contract. -/
namespace Go.Proofs.YtgaimkihacljdaaGreat
open Go.ChangeShapes Go.WideShapes Go.ChangeAt Go.RowKit
theorem Own.drewN{α:Type}{w:World}{B:Nat}{T:TypeId}{sz:Nat}{enc:α→List Value}{v:Value}{l:List α}(h:Own w B T sz enc v l)(n:Nat):Own (w.drewN n) B T sz enc v l:=h
end Go.Proofs.YtgaimkihacljdaaGreat
/- slices.Repeat of one input; math/bits.Mul. -/
namespace Go.Proofs.YtgaimkihacljdaaGreat
open Go.ChangeShapes Go.WideShapes Go.ChangeAt Go.RowKit
end Go.Proofs.YtgaimkihacljdaaGreat
/- ReplayInputs: the program's by its contract. Printed by gen/rinpi.py. -/
namespace Go.Proofs.YtgaimkihacljdaaGreat
open Go.ChangeShapes Go.WideShapes Go.ChangeAt Go.RowKit
end Go.Proofs.YtgaimkihacljdaaGreat
/- Parts and inputs: the plain laws. No program is named here. -/
namespace Go.Proofs.YtgaimkihacljdaaGreat
open Go.RowKit
end Go.Proofs.YtgaimkihacljdaaGreat
/- The laws' comparisons of lists: sameInts, sameParts, sameInputs. Printed by gen/same.py. -/
namespace Go.Proofs.YtgaimkihacljdaaGreat
open Go.ChangeShapes Go.WideShapes Go.ChangeAt Go.RowKit
end Go.Proofs.YtgaimkihacljdaaGreat
