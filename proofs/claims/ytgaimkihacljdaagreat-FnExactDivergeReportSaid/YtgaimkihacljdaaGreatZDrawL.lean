/- Lemmas: DrD DrL DrM EqS. -/
import Derived.Test.YtgaimkihacljdaaGreatZDraw
import Derived.Test.YtgaimkihacljdaaGreatZPart
import Derived.Deep.RegionHeld3
import Derived.Deep.Cut
import Derived.Test.YtgaimkihacljdaaGreatZImpC
/- Draws of inputs: l92Any; DrawReplayParts. -/
namespace Go.Proofs.YtgaimkihacljdaaGreat
open Go.ChangeShapes Go.WideShapes Go.ChangeAt Go.RowKit
end Go.Proofs.YtgaimkihacljdaaGreat
/- The reference's draws: vectors, boxes, changed levels. Printed by gen/drl.py. (Round B) -/
namespace Go.Proofs.YtgaimkihacljdaaGreat
open Go.ChangeShapes Go.WideShapes Go.ChangeAt Go.RowKit
end Go.Proofs.YtgaimkihacljdaaGreat
/- The reference's draws of runs: DrawInputsLegal, DrawRunScore, DrawRunHashes, DrawRunTo. (Round B) -/
namespace Go.Proofs.YtgaimkihacljdaaGreat
open Go.ChangeShapes Go.WideShapes Go.ChangeAt Go.RowKit
end Go.Proofs.YtgaimkihacljdaaGreat
/- Two equal states, two equal inputs are told equal. (Round B) -/
namespace Go.Proofs.YtgaimkihacljdaaGreat
open Go.ChangeShapes Go.WideShapes Go.ChangeAt Go.RowKit
end Go.Proofs.YtgaimkihacljdaaGreat
