/- Lists that are hashed and tags of the program. (Round B, seat Z) -/
import Derived.Test.YtpmjcjoeckajgaaGreatZImpB
import Derived.Test.YtpmjcjoeckajgaaGreatZRepl
import Derived.Test.YtpmjcjoeckajgaaGreatZRun
namespace Go.Proofs.YtpmjcjoeckajgaaGreat
open Go.ChangeShapes Go.WideShapes Go.ChangeAt Go.RowKit
theorem sl1(w:World)(T:TypeId)(a:Int):Sl (w.alloc (.cells #[.int .i64 a] T)) 1 Qe (some ⟨w.heap.size,0,none⟩) 1 [a]:=
 Sl.lit _ _ _ _ _ 1 rfl rfl (by simp[Qe])
end Go.Proofs.YtpmjcjoeckajgaaGreat
