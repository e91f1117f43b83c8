/- More small laws for the laws of runs. (Round B) -/
import Derived.Test.YtpmjcjoeckajgaaGreatRunQ
import Derived.Test.YtpmjcjoeckajgaaGreatZPart
namespace Go.Proofs.YtpmjcjoeckajgaaGreat
open Go.ChangeShapes Go.WideShapes Go.ChangeAt Go.RowKit
end Go.Proofs.YtpmjcjoeckajgaaGreat
