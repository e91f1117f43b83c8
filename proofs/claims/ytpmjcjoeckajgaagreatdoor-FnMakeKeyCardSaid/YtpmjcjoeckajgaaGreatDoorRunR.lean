/- More small laws for the laws of runs. (Round B) -/
import Derived.Test.YtpmjcjoeckajgaaGreatDoorRunQ
import Derived.Test.YtpmjcjoeckajgaaGreatDoorZPart
namespace Go.Proofs.YtpmjcjoeckajgaaGreatDoor
open Go.ChangeShapes Go.WideShapes Go.ChangeAt Go.RowKit
theorem Ji(A A':Option Addr)(n n' c c':Nat)(l:List Int)(w:World)(h:Sl w 1 Qe A n l)(h':Sl w 1 Qe A' n' l)(hn:n≤2097152)(hn':n'≤2097152):
 Calls Sq.prog 58 #[.slice A n c,.slice A' n' c'] w fun e w'=>e= .returned (.bool (true))∧Below w.heap.size w w':=
 (Qe2 A A' n n' c c' l l w h h' hn hn').mono fun _ _ ⟨h1,h2⟩=>⟨by rw[h1,(XD Qam l l).2 rfl],h2⟩
end Go.Proofs.YtpmjcjoeckajgaaGreatDoor
