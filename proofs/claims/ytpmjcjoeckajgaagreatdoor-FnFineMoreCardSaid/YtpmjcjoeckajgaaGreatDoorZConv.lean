/- Lemmas: ConvB ConvL. -/
import Derived.Test.YtpmjcjoeckajgaaGreatDoorZImpB
import Derived.Test.YtpmjcjoeckajgaaGreatDoorZBase
/- The laws' own conversions and comparisons of boxes, levels, states. Written by gen/convb.py. (Round B) -/
namespace Go.Proofs.YtpmjcjoeckajgaaGreatDoor
open Go.ChangeShapes Go.WideShapes Go.ChangeAt Go.RowKit
end Go.Proofs.YtpmjcjoeckajgaaGreatDoor
/- Small laws of sizes; two levels' cells stand. (Round B) -/
namespace Go.Proofs.YtpmjcjoeckajgaaGreatDoor
open Go.ChangeShapes Go.WideShapes Go.ChangeAt Go.RowKit
end Go.Proofs.YtpmjcjoeckajgaaGreatDoor
