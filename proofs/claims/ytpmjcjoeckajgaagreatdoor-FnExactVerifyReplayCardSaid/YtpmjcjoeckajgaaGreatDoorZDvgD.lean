/- Lemmas: DvgD DvgP. -/
import Derived.Test.YtpmjcjoeckajgaaGreatDoorDrF
import Derived.Test.YtpmjcjoeckajgaaGreatDoorZDvg
import Derived.Test.YtpmjcjoeckajgaaGreatDoorZPart
/- Draws of two lists of hashes. (Round C) -/
namespace Go.Proofs.YtpmjcjoeckajgaaGreatDoor
open Go.ChangeShapes Go.WideShapes Go.ChangeAt Go.RowKit
end Go.Proofs.YtpmjcjoeckajgaaGreatDoor
/- Differences of two lists, plainly. (Round C) -/
namespace Go.Proofs.YtpmjcjoeckajgaaGreatDoor
open Go.ChangeShapes Go.WideShapes Go.ChangeAt Go.RowKit
end Go.Proofs.YtpmjcjoeckajgaaGreatDoor
