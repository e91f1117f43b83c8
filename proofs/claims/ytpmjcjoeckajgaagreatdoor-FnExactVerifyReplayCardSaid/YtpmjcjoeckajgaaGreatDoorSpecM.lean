/- The reference's EngineValid, EngineStep, EngineStart, InputsLegal. (Round B) -/
import Derived.Test.YtpmjcjoeckajgaaGreatDoorZRun
namespace Go.Proofs.YtpmjcjoeckajgaaGreatDoor
open Go.ChangeShapes Go.WideShapes Go.ChangeAt Go.RowKit
end Go.Proofs.YtpmjcjoeckajgaaGreatDoor
