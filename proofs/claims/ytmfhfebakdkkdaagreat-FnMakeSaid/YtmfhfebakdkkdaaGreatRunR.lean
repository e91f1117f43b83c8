/- More small laws for the laws of runs. (Round B) -/
import Derived.Test.YtmfhfebakdkkdaaGreatRunQ
import Derived.Test.YtmfhfebakdkkdaaGreatZPart
namespace Go.Proofs.YtmfhfebakdkkdaaGreat
open Go.ChangeShapes Go.WideShapes Go.ChangeAt Go.RowKit
theorem lit_row {N B n c k : Nat} (h : B ≤ N) (e : (Value.slice (some ⟨N, 0, none⟩) n c).ownBlock = some k) : B ≤ k := by
  simp only [Value.ownBlock, Option.some.injEq] at e; omega
theorem keepC1 {W w' : World} {a : Addr} {u : Value} (h : W.cell? a = some u) (ha : a.block < W.heap.size) (hb : Below W.heap.size W w') : w'.cell? a = some u := (hb.cell ha).trans h
theorem keepC4 {W w' : World} {a b c d : Addr} {u v x y : Value} (h : W.cell? a = some u) (h2 : W.cell? b = some v) (h3 : W.cell? c = some x) (h4 : W.cell? d = some y) (ha : a.block < W.heap.size) (hb2 : b.block < W.heap.size) (hc : c.block < W.heap.size) (hd : d.block < W.heap.size) (hb : Below W.heap.size W w') : w'.cell? a = some u ∧ w'.cell? b = some v ∧ w'.cell? c = some x ∧ w'.cell? d = some y := ⟨(hb.cell ha).trans h, (hb.cell hb2).trans h2, (hb.cell hc).trans h3, (hb.cell hd).trans h4⟩
theorem implRunHashes_take (l : Lev) (ins : List Inp) (m : Nat) (A A' A2 : Option Addr) (c c' c2 : Nat) (w : World) (h : Sl w 4 encBx A l.walls.length l.walls) (hg : Sl w 4 encBx A' l.gates.length l.gates) (e : A = none → c = 0) (e' : A' = none → c' = 0) (hn1 : (l.walls.length : Nat) ≤ 9223372036854775807) (hn2 : (l.gates.length : Nat) ≤ 9223372036854775807) (hs : Sl w 3 encInp A2 ins.length ins) (hm : m ≤ ins.length) (hn3 : (ins.length : Nat) ≤ 9223372036854775807) :
    Calls Tryz.prog 13 #[.agg #[.int .i64 l.id, .int .i64 l.ticks, .int .i64 l.start.x, .int .i64 l.start.y, .slice A l.walls.length c, .slice A' l.gates.length c', .int .i64 l.fin.lo.x, .int .i64 l.fin.lo.y, .int .i64 l.fin.hi.x, .int .i64 l.fin.hi.y, .int .i64 l.bans], .slice A2 m c2] w (RetOwn 3 1 encInt (hashesR l (ins.take m)) w) := by
  have := implRunHashes_any l (ins.take m) A A' A2 c c' c2 w h hg e e' hn1 hn2 (by rw [len_take hm]; exact hs.takeN hm) (by rw [len_take hm]; omega)
  rw [len_take hm] at this
  exact this
theorem sameInts_same (A A' : Option Addr) (n n' c c' : Nat) (l : List Int) (w : World) (h : Sl w 1 encInt A n l) (h' : Sl w 1 encInt A' n' l) (hn : n ≤ 2097152) (hn' : n' ≤ 2097152) :
    Calls Tryz.prog 12 #[.slice A n c, .slice A' n' c'] w fun e w' => e = .returned (.bool (true)) ∧ Below w.heap.size w w' :=
  (sameInts_any A A' n n' c c' l l w h h' hn hn').mono fun _ _ ⟨h1, h2⟩ => ⟨by rw [h1, (eqL_iff eqInt_iff l l).2 rfl], h2⟩
end Go.Proofs.YtmfhfebakdkkdaaGreat
