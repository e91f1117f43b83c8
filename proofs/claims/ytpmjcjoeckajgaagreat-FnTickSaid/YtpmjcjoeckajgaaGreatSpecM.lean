/- The reference's EngineValid, EngineStep, EngineStart, InputsLegal. (Round B) -/
import Derived.Test.YtpmjcjoeckajgaaGreatZRun
namespace Go.Proofs.YtpmjcjoeckajgaaGreat
open Go.ChangeShapes Go.WideShapes Go.ChangeAt Go.RowKit
end Go.Proofs.YtpmjcjoeckajgaaGreat
