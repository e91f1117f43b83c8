/- The reference's RunPath. (Round B) -/
import Derived.Test.YtlegilbiapbfkaaGreatZImpB
import Derived.Test.YtlegilbiapbfkaaGreatSpecM
namespace Go.Proofs.YtlegilbiapbfkaaGreat
open Go.ChangeShapes Go.WideShapes Go.ChangeAt Go.RowKit
end Go.Proofs.YtlegilbiapbfkaaGreat
