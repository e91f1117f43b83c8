/- EngineValid of both sides. Printed by gen/engv.py. (Round B) -/
import Derived.Test.YtpmjcjoeckajgaaGreatDoorImpR
import Derived.Test.YtpmjcjoeckajgaaGreatDoorSpecM
namespace Go.Proofs.YtpmjcjoeckajgaaGreatDoor
open Go.ChangeShapes Go.WideShapes Go.ChangeAt Go.RowKit
end Go.Proofs.YtpmjcjoeckajgaaGreatDoor
