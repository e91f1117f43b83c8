/- Lemmas: ConvB ConvL. -/
import Derived.Test.YtlegilbiapbfkaaGreatZImpB
import Derived.Test.YtlegilbiapbfkaaGreatZBase
/- The laws' own conversions and comparisons of boxes, levels, states. Written by gen/convb.py. (Round B) -/
namespace Go.Proofs.YtlegilbiapbfkaaGreat
open Go.ChangeShapes Go.WideShapes Go.ChangeAt Go.RowKit
end Go.Proofs.YtlegilbiapbfkaaGreat
/- Small laws of sizes; two levels' cells stand. (Round B) -/
namespace Go.Proofs.YtlegilbiapbfkaaGreat
open Go.ChangeShapes Go.WideShapes Go.ChangeAt Go.RowKit
end Go.Proofs.YtlegilbiapbfkaaGreat
