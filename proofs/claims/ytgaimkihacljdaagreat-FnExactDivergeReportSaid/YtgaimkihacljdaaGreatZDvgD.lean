/- Lemmas: DvgD DvgP. -/
import Derived.Test.YtgaimkihacljdaaGreatDrF
import Derived.Test.YtgaimkihacljdaaGreatZDvg
import Derived.Test.YtgaimkihacljdaaGreatZPart
/- Draws of two lists of hashes. (Round C) -/
namespace Go.Proofs.YtgaimkihacljdaaGreat
open Go.ChangeShapes Go.WideShapes Go.ChangeAt Go.RowKit
end Go.Proofs.YtgaimkihacljdaaGreat
/- Differences of two lists, plainly. (Round C) -/
namespace Go.Proofs.YtgaimkihacljdaaGreat
open Go.ChangeShapes Go.WideShapes Go.ChangeAt Go.RowKit
theorem QfZ(l:List Bool):(fstB l= -1∧∀i,i<l.length→l[i]? =some false)∨∃k:Nat,fstB l=k∧k<l.length∧l[k]? =some true∧∀i,i<k→l[i]? =some false:=by
 cases h:l.findIdx? id with
 |none=>
  rw[List.findIdx?_eq_none_iff] at h
  refine .inl ⟨by simp[fstB,List.findIdx?_eq_none_iff.2 h],fun i hi=>?_⟩
  rw[List.getElem?_eq_getElem hi]
  have:=h _ (List.getElem_mem hi)
  simpa using this
 |some k=>
  have h':=h
  rw[List.findIdx?_eq_some_iff_getElem] at h
  obtain⟨hlt,h1,h2⟩:=h
  refine .inr ⟨k,by simp[fstB,h'],hlt,?_,fun i hi=>?_⟩
  ·rw[List.getElem?_eq_getElem hlt]
   simpa using h1
  ·rw[List.getElem?_eq_getElem (by omega)]
   have:=h2 i hi
   simpa using this
theorem QhP{a b:List Int}{i:Nat}(h:difB a b i=false):i<a.length∧i<b.length∧a[i]? =b[i]? :=by
 unfold difB at h
 simp only[Bool.or_eq_false_iff,decide_eq_false_iff_not,Nat.not_le,bne_eq_false_iff_eq,List.getD_eq_getElem?_getD] at h
 obtain⟨⟨h1,h2⟩,h3⟩:=h
 refine⟨h1,h2,?_⟩
 rw[List.getElem?_eq_getElem h1,List.getElem?_eq_getElem h2] at h3⊢
 simpa using h3
theorem QlK{a b:List Int}{k:Nat}(h: ∀i,i<k→difB a b i=false):k≤a.length∧k≤b.length∧a.take k=b.take k:=by
 have hk:k≤a.length∧k≤b.length:=by
  rcases Nat.eq_zero_or_pos k with rfl|hp
  ·omega
  ·have:=QhP (h (k - 1) (by omega))
   omega
 refine⟨hk.1,hk.2,List.ext_getElem? fun i=>?_⟩
 rw[List.getElem?_take,List.getElem?_take]
 split
 ·exact(QhP (h i (by assumption))).2.2
 ·rfl
theorem QfX(a b:List Int):(Zg a b= -1∧a=b)∨∃k:Nat,Zg a b=k∧k≤a.length∧k≤b.length∧k<max a.length b.length∧a.take k=b.take k∧difB a b k=true∧∀i,i<k→difB a b i=false:=by
 rcases QfZ (difL a b) with⟨h1,h2⟩|⟨k,h1,h2,h3,h4⟩
 ·have hall: ∀i,i<max a.length b.length→difB a b i=false:=fun i hi=>by
   have:=h2 i (by rw[QaE];exact hi)
   rw[QaY a b hi] at this
   exact Option.some.inj this
  obtain⟨x,y,z⟩:=QlK hall
  have e:a.length=b.length:=by omega
  rw[←e,Nat.max_self,List.take_of_length_le (Nat.le_refl _),e,List.take_of_length_le (Nat.le_refl _)] at z
  exact .inl ⟨h1,z⟩
 ·rw[QaE] at h2
  have hall: ∀i,i<k→difB a b i=false:=fun i hi=>by
   have:=h4 i hi
   rw[QaY a b (by omega)] at this
   exact Option.some.inj this
  obtain⟨x,y,z⟩:=QlK hall
  rw[QaY a b h2] at h3
  exact .inr ⟨k,h1,x,y,h2,z,Option.some.inj h3,hall⟩
end Go.Proofs.YtgaimkihacljdaaGreat
