/- The tick of a verdict: program and reference. Printed by gen/vert.py. (Round C) -/
import Derived.Test.YtpmjcjoeckajgaaGreatDoorDvgR
import Derived.Test.YtpmjcjoeckajgaaGreatDoorZBase
namespace Go.Proofs.YtpmjcjoeckajgaaGreatDoor
open Go.ChangeShapes Go.WideShapes Go.ChangeAt Go.RowKit
theorem QgE{r:Rep}(h:QL r=true):r.ins.length≤60∧r.hs.length≤12:=by
 simp only[QL,Bool.and_eq_true,Q5] at h
 obtain⟨h1,h2,h3,h4,h5,h6,h7⟩:=h
 obtain⟨hv,hl⟩:=Ja.1 h4
 unfold lenB at h5
 simp at h5
 omega
end Go.Proofs.YtpmjcjoeckajgaaGreatDoor
