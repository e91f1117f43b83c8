/- Lemmas: SpecD SpecE. -/
import Derived.Test.YtlegilbiapbfkaaZSpec
/- The reference's tick: l13Drive, l13Step. Printed by gen/drive.py. -/
namespace Go.Proofs.Ytlegilbiapbfkaa
open Go.ChangeShapes Go.WideShapes Go.ChangeAt Go.RowKit
end Go.Proofs.Ytlegilbiapbfkaa

/- The reference's tick: l13Step. Printed by gen/drive.py. -/
namespace Go.Proofs.Ytlegilbiapbfkaa
open Go.ChangeShapes Go.WideShapes Go.ChangeAt Go.RowKit
end Go.Proofs.Ytlegilbiapbfkaa
