/- More small laws for the laws of runs. (Round B) -/
import Derived.Test.YtlegilbiapbfkaaGreatRunQ
import Derived.Test.YtlegilbiapbfkaaGreatZPart
namespace Go.Proofs.YtlegilbiapbfkaaGreat
open Go.ChangeShapes Go.WideShapes Go.ChangeAt Go.RowKit
theorem implRunHashes_take (l : Lev) (ins : List Inp) (m : Nat) (A A' A2 : Option Addr) (c c' c2 : Nat) (w : World) (h : Sl w 4 encBx A l.walls.length l.walls) (hg : Sl w 4 encBx A' l.gates.length l.gates) (e : A = none → c = 0) (e' : A' = none → c' = 0) (hn1 : (l.walls.length : Nat) ≤ 9223372036854775807) (hn2 : (l.gates.length : Nat) ≤ 9223372036854775807) (hs : Sl w 3 encInp A2 ins.length ins) (hm : m ≤ ins.length) (hn3 : (ins.length : Nat) ≤ 9223372036854775807) :
    Calls Sq.prog 14 #[.agg #[.int .i64 l.id, .int .i64 l.ticks, .int .i64 l.start.x, .int .i64 l.start.y, .slice A l.walls.length c, .slice A' l.gates.length c', .int .i64 l.fin.lo.x, .int .i64 l.fin.lo.y, .int .i64 l.fin.hi.x, .int .i64 l.fin.hi.y, .int .i64 l.bans], .slice A2 m c2] w (RetOwn 3 1 encInt (hashesR l (ins.take m)) w) := by
  have := implRunHashes_any l (ins.take m) A A' A2 c c' c2 w h hg e e' hn1 hn2 (by rw [len_take hm]; exact hs.takeN hm) (by rw [len_take hm]; omega)
  rw [len_take hm] at this
  exact this
theorem sameInts_same (A A' : Option Addr) (n n' c c' : Nat) (l : List Int) (w : World) (h : Sl w 1 encInt A n l) (h' : Sl w 1 encInt A' n' l) (hn : n ≤ 2097152) (hn' : n' ≤ 2097152) :
    Calls Sq.prog 25 #[.slice A n c, .slice A' n' c'] w fun e w' => e = .returned (.bool (true)) ∧ Below w.heap.size w w' :=
  (sameInts_any A A' n n' c c' l l w h h' hn hn').mono fun _ _ ⟨h1, h2⟩ => ⟨by rw [h1, (eqL_iff eqInt_iff l l).2 rfl], h2⟩
end Go.Proofs.YtlegilbiapbfkaaGreat
