/- Lemmas: DvgD DvgP. -/
import Derived.Test.YtpmjcjoeckajgaaGreatDoorDrF
import Derived.Test.YtpmjcjoeckajgaaGreatDoorZDvg
import Derived.Test.YtpmjcjoeckajgaaGreatDoorZPart
/- Draws of two lists of hashes. (Round C) -/
namespace Go.Proofs.YtpmjcjoeckajgaaGreatDoor
open Go.ChangeShapes Go.WideShapes Go.ChangeAt Go.RowKit
end Go.Proofs.YtpmjcjoeckajgaaGreatDoor
/- Differences of two lists, plainly. (Round C) -/
namespace Go.Proofs.YtpmjcjoeckajgaaGreatDoor
open Go.ChangeShapes Go.WideShapes Go.ChangeAt Go.RowKit
theorem QfF{a b:List Int}{i:Nat}(h1:i<a.length)(h:a[i]? =b[i]?):difB a b i=false:=by
 have h2:i<b.length:=by
  have:=List.getElem?_eq_getElem h1
  rw[h] at this
  exact(List.getElem?_eq_some_iff.1 this).1
 unfold difB
 rw[decide_eq_false (by omega),decide_eq_false (by omega),List.getD_eq_getElem?_getD,List.getD_eq_getElem?_getD,h]
 simp
theorem Qig(a:List Int):Zg a a= -1:=Qif fun i hi=>QfF (by rw[Nat.max_self] at hi;exact hi) rfl
end Go.Proofs.YtpmjcjoeckajgaaGreatDoor
