/- More small laws for the laws of runs. (Round B) -/
import Derived.Test.YtpmjcjoeckajgaaGreatDoorRunQ
import Derived.Test.YtpmjcjoeckajgaaGreatDoorZPart
namespace Go.Proofs.YtpmjcjoeckajgaaGreatDoor
open Go.ChangeShapes Go.WideShapes Go.ChangeAt Go.RowKit
theorem Qgs{N B n c k:Nat}(h:B≤N)(e:(Value.slice (some ⟨N,0,none⟩) n c).ownBlock=some k):B≤k:=by
 simp only[Value.ownBlock,Option.some.injEq] at e;omega
end Go.Proofs.YtpmjcjoeckajgaaGreatDoor
