/- What the laws of made replays lean on: sameReplay, what a made replay is. (Round B, seat Z) -/
import Derived.Test.YtpmjcjoeckajgaaGreatDoorImpW
import Derived.Test.YtpmjcjoeckajgaaGreatDoorRunR
namespace Go.Proofs.YtpmjcjoeckajgaaGreatDoor
open Go.ChangeShapes Go.WideShapes Go.ChangeAt Go.RowKit
theorem Zt{W w':World}{g:Nat}{t:TypeId}{v0 v1 v2 v3 v4 v5:Value}(h:Bk W g t #[v0,v1,v2,v3,v4,v5])(hb:Below W.heap.size W w'):
 w'.cell? ⟨g,0,none⟩=some v0∧w'.cell? ⟨g,1,none⟩=some v1∧w'.cell? ⟨g,2,none⟩=some v2∧w'.cell? ⟨g,3,none⟩=some v3∧w'.cell? ⟨g,4,none⟩=some v4∧w'.cell? ⟨g,5,none⟩=some v5:=(h.later hb).c6.1
end Go.Proofs.YtpmjcjoeckajgaaGreatDoor
