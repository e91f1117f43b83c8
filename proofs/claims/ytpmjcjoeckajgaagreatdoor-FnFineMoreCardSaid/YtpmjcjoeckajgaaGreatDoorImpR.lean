/- The program's EngineValid, EngineStep, EngineSpeed, LevelFree, BoxHas. (Round B) -/
import Derived.Test.YtpmjcjoeckajgaaGreatDoorZImpB
import Derived.Test.YtpmjcjoeckajgaaGreatDoorZRun
namespace Go.Proofs.YtpmjcjoeckajgaaGreatDoor
open Go.ChangeShapes Go.WideShapes Go.ChangeAt Go.RowKit
end Go.Proofs.YtpmjcjoeckajgaaGreatDoor
