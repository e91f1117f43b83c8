/- The laws' own comparisons and marks of vectors, boxes, levels. Printed by gen/convv.py. (Round B) -/
import Derived.Test.YtgaimkihacljdaaGreatZConv
import Derived.Test.YtgaimkihacljdaaGreatZImpB
namespace Go.Proofs.YtgaimkihacljdaaGreat
open Go.ChangeShapes Go.WideShapes Go.ChangeAt Go.RowKit
theorem Qew(l:Lev)(ins:List Inp):(Qq l ins).length≤61:=by
 unfold Qq
 split
 ·rename_i h
  rw[Qca]
  have:=(Zp h).2.1
  omega
 ·simp
end Go.Proofs.YtgaimkihacljdaaGreat
