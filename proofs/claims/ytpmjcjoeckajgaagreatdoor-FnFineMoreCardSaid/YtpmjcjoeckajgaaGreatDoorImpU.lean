/- EngineSpeed, EngineHash, LevelFree, BoxHas of the program; EngineStart, InputsLegal whatever the level. (Round B) -/
import Derived.Test.YtpmjcjoeckajgaaGreatDoorImpS
namespace Go.Proofs.YtpmjcjoeckajgaaGreatDoor
open Go.ChangeShapes Go.WideShapes Go.ChangeAt Go.RowKit
end Go.Proofs.YtpmjcjoeckajgaaGreatDoor
