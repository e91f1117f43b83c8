/- ReplayList: the reference's and the program's, each by its contract. -/
import Derived.Test.YtmfhfebakdkkdaaRepC
import Derived.Test.YtmfhfebakdkkdaaApp
import Derived.Deep.DeepMust
namespace Go.Proofs.Ytmfhfebakdkkdaa
open Go.ChangeShapes Go.WideShapes Go.ChangeAt Go.RowKit
def repHead (r : Rep) : List Int := [r.lv, r.pl, r.sc, (r.ins.length : Int)]
def repList (r : Rep) : List Int := repHead r ++ r.ins.map code ++ r.hs
theorem replayOk_bd {r : Rep} (h : replayOk r = true) : (∀ x ∈ r.ins, inpOk x = true) ∧ r.ins.length ≤ 60 ∧ r.hs.length = r.ins.length / 5 := by
  simp only [replayOk, Bool.and_eq_true, lenB, decide_eq_true_eq] at h
  obtain ⟨_, _, _, h4, h5, _⟩ := h
  exact ⟨(inputsOkB_iff.1 h4).1, (inputsOkB_iff.1 h4).2, h5⟩
theorem head_own (w : World) (B N : Nat) (a b c d : Int) (hB : B ≤ w.heap.size) (hN : w.heap.size = N) : Own (w.alloc (.cells #[.int .i64 a, .int .i64 b, .int .i64 c, .int .i64 d] 3)) B 3 1 encInt (.slice (some ⟨N, 0, none⟩) 4 4) [a, b, c, d] := by
  subst hN
  exact World.ownsRow_lit (base := B) (size := 1) w #[.int .i64 a, .int .i64 b, .int .i64 c, .int .i64 d] 4 hB (by decide) rfl
theorem take_code {l : List Inp} {k : Nat} {x : Inp} (hx : l[k]? = some x) : (l.take (k + 1)).map code = (l.take k).map code ++ [code x] := by
  rw [List.take_add_one, hx, List.map_append]; rfl
theorem Own.nil_lit (w : World) (B : Nat) (T : TypeId) (hB : B ≤ w.heap.size) : Own (w.alloc (.cells #[] T)) B T 1 encInt (.slice (some ⟨w.heap.size, 0, none⟩) 0 0) [] :=
  World.ownsRow_lit (base := B) (size := 1) w #[] 0 hB (by decide) rfl
def repL (r : Rep) : List Int := if replayOk r then repList r else []
end Go.Proofs.Ytmfhfebakdkkdaa
