/- Reports: program and reference. (Round C) -/
import Derived.Test.YtpmjcjoeckajgaaGreatDoorZDvgD
import Derived.Test.YtpmjcjoeckajgaaGreatDoorZImpB
import Derived.Test.YtpmjcjoeckajgaaGreatDoorConvV
import Derived.Test.YtpmjcjoeckajgaaGreatDoorZRun
namespace Go.Proofs.YtpmjcjoeckajgaaGreatDoor
open Go.ChangeShapes Go.WideShapes Go.ChangeAt Go.RowKit
theorem Qc0(l:Lev)(ins:List Inp):(Qq l ins).length≤61:=Qew l ins
end Go.Proofs.YtpmjcjoeckajgaaGreatDoor
