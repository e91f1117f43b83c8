/- The laws' own comparisons and marks of vectors, boxes, levels. Printed by gen/convv.py. (Round B) -/
import Derived.Test.YtlegilbiapbfkaaGreatZConv
import Derived.Test.YtlegilbiapbfkaaGreatZImpB
namespace Go.Proofs.YtlegilbiapbfkaaGreat
open Go.ChangeShapes Go.WideShapes Go.ChangeAt Go.RowKit
theorem hashesR_le (l : Lev) (ins : List Inp) : (hashesR l ins).length ≤ 61 := by
  unfold hashesR
  split
  · rename_i h
    rw [hashesTo_len]
    have := (runOk_bd h).2.1
    omega
  · simp
end Go.Proofs.YtlegilbiapbfkaaGreat
