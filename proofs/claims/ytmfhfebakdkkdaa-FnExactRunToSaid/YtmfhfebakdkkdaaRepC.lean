/- Replays: the laws' sizes, conversions, comparisons, marks. -/
import Derived.Test.YtmfhfebakdkkdaaReps
namespace Go.Proofs.Ytmfhfebakdkkdaa
open Go.ChangeShapes Go.WideShapes Go.ChangeAt Go.RowKit
def szRep (ni nh : Nat) (k : Int) : Int := if szL ni k < 0 then -1 else szL nh (szL ni k)
theorem szL_bd {n : Nat} {k : Int} (h : k ≤ 1048576) (h0 : -1 ≤ k) : -1 ≤ szL n k ∧ szL n k ≤ 1048576 := by unfold szL; split <;> omega
theorem szL_neg {n : Nat} {k : Int} (h : k < 0) : szL n k < 0 := by unfold szL; split <;> omega
/-- A call hands back a replay whose two slices are the call's own. -/
def RetRep (r : Rep) (w : World) (e : Ending) (w' : World) : Prop :=
  ∃ A c A' c', e = .returned (.agg #[.int .i64 r.lv, .int .i64 r.pl, .int .i64 r.sc, .slice A r.ins.length c, .slice A' r.hs.length c', .int .i64 r.tag]) ∧
    Own w' w.heap.size 33 3 encInp (.slice A r.ins.length c) r.ins ∧ Own w' w.heap.size 3 1 encInt (.slice A' r.hs.length c') r.hs ∧ Below w.heap.size w w'
/-- The same, and the two slices lie apart. -/
def RetRepS (r : Rep) (w : World) (e : Ending) (w' : World) : Prop :=
  ∃ A c A' c', e = .returned (.agg #[.int .i64 r.lv, .int .i64 r.pl, .int .i64 r.sc, .slice A r.ins.length c, .slice A' r.hs.length c', .int .i64 r.tag]) ∧
    Own w' w.heap.size 33 3 encInp (.slice A r.ins.length c) r.ins ∧ Own w' w.heap.size 3 1 encInt (.slice A' r.hs.length c') r.hs ∧ Below w.heap.size w w' ∧
    (∀ g g', (Value.slice A r.ins.length c).ownBlock = some g → (Value.slice A' r.hs.length c').ownBlock = some g' → g < g')
theorem eqInputS_same (A A' : Option Addr) (n n' c c' : Nat) (l : List Inp) (w : World) (h : Sl w 3 encInp A n l) (h' : Sl w 3 encInp A' n' l) (hn : n ≤ 2097152) (hn' : n' ≤ 2097152) :
    Calls Try.prog 38 #[.slice A n c, .slice A' n' c'] w fun e w' => e = .returned (.bool true) ∧ Below w.heap.size w w' :=
  (eqInputS_any A A' n n' c c' l l w h h' hn hn').mono fun e w' ⟨h1, h2⟩ => ⟨by rw [h1, (eqL_iff eqInp_iff l l).2 rfl], h2⟩
theorem eqIntS_same (A A' : Option Addr) (n n' c c' : Nat) (l : List Int) (w : World) (h : Sl w 1 encInt A n l) (h' : Sl w 1 encInt A' n' l) (hn : n ≤ 2097152) (hn' : n' ≤ 2097152) :
    Calls Try.prog 60 #[.slice A n c, .slice A' n' c'] w fun e w' => e = .returned (.bool true) ∧ Below w.heap.size w w' :=
  (eqIntS_any A A' n n' c c' l l w h h' hn hn').mono fun e w' ⟨h1, h2⟩ => ⟨by rw [h1, (eqL_iff eqInt_iff l l).2 rfl], h2⟩
theorem keep66 {w w' : World} {N M : Nat} {v0 v1 v2 v3 v4 v5 u0 u1 u2 u3 u4 u5 : Value} (hB : Blk w N [v0, v1, v2, v3, v4, v5]) (hD : Blk w M [u0, u1, u2, u3, u4, u5]) (z : Below w.heap.size w w') : Below w.heap.size w w' ∧ w'.cell? ⟨N, 0, none⟩ = some v0 ∧ w'.cell? ⟨N, 1, none⟩ = some v1 ∧ w'.cell? ⟨N, 2, none⟩ = some v2 ∧ w'.cell? ⟨N, 3, none⟩ = some v3 ∧ w'.cell? ⟨N, 4, none⟩ = some v4 ∧ w'.cell? ⟨N, 5, none⟩ = some v5 ∧ w'.cell? ⟨M, 0, none⟩ = some u0 ∧ w'.cell? ⟨M, 1, none⟩ = some u1 ∧ w'.cell? ⟨M, 2, none⟩ = some u2 ∧ w'.cell? ⟨M, 3, none⟩ = some u3 ∧ w'.cell? ⟨M, 4, none⟩ = some u4 ∧ w'.cell? ⟨M, 5, none⟩ = some u5 := ⟨z, (hB.later z).2 0 _ rfl, (hB.later z).2 1 _ rfl, (hB.later z).2 2 _ rfl, (hB.later z).2 3 _ rfl, (hB.later z).2 4 _ rfl, (hB.later z).2 5 _ rfl, (hD.later z).2 0 _ rfl, (hD.later z).2 1 _ rfl, (hD.later z).2 2 _ rfl, (hD.later z).2 3 _ rfl, (hD.later z).2 4 _ rfl, (hD.later z).2 5 _ rfl⟩
end Go.Proofs.Ytmfhfebakdkkdaa
