/- The program's ReplayMake. (Round B, seat Z; printed by gen/implr.py) -/
import Derived.Test.YtpmjcjoeckajgaaGreatDoorImpV
import Derived.Test.YtpmjcjoeckajgaaGreatDoorSpecL
namespace Go.Proofs.YtpmjcjoeckajgaaGreatDoor
open Go.ChangeShapes Go.WideShapes Go.ChangeAt Go.RowKit
end Go.Proofs.YtpmjcjoeckajgaaGreatDoor
