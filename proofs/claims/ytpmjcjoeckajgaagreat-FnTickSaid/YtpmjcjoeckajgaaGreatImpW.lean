/- The program's ReplayMake. (Round B, seat Z; printed by gen/implr.py) -/
import Derived.Test.YtpmjcjoeckajgaaGreatImpV
import Derived.Test.YtpmjcjoeckajgaaGreatSpecL
namespace Go.Proofs.YtpmjcjoeckajgaaGreat
open Go.ChangeShapes Go.WideShapes Go.ChangeAt Go.RowKit
end Go.Proofs.YtpmjcjoeckajgaaGreat
