/- More small laws for the laws of runs. (Round B) -/
import Derived.Test.YtpmjcjoeckajgaaGreatDoorRunQ
import Derived.Test.YtpmjcjoeckajgaaGreatDoorZPart
namespace Go.Proofs.YtpmjcjoeckajgaaGreatDoor
open Go.ChangeShapes Go.WideShapes Go.ChangeAt Go.RowKit
end Go.Proofs.YtpmjcjoeckajgaaGreatDoor
