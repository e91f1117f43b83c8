/- The reference's RunPath. (Round B) -/
import Derived.Test.YtpmjcjoeckajgaaGreatZImpB
import Derived.Test.YtpmjcjoeckajgaaGreatSpecM
namespace Go.Proofs.YtpmjcjoeckajgaaGreat
open Go.ChangeShapes Go.WideShapes Go.ChangeAt Go.RowKit
end Go.Proofs.YtpmjcjoeckajgaaGreat
