/- Replays: is one valid? -/
import Derived.Test.YtmfhfebakdkkdaaInpL
namespace Go.Proofs.Ytmfhfebakdkkdaa
open Go.ChangeShapes Go.WideShapes Go.ChangeAt Go.RowKit
def inR (lo hi n : Int) : Bool := decide (lo ≤ n) && decide (n ≤ hi)
theorem inR_iff {lo hi n : Int} : inR lo hi n = true ↔ lo ≤ n ∧ n ≤ hi := by simp [inR]
theorem l6In_r (n lo hi : Int) (w : World) : Calls Try.prog 95 #[.int .i64 n, .int .i64 lo, .int .i64 hi] w fun e w' => e = .returned (.bool (inR lo hi n)) ∧ w = w' := l6In_any n lo hi w
theorem inRange_r (n lo hi : Int) (w : World) : Calls Try.prog 94 #[.int .i64 n, .int .i64 lo, .int .i64 hi] w fun e w' => e = .returned (.bool (inR lo hi n)) ∧ w = w' := inRange_any n lo hi w
structure Rep where
  lv : Int
  pl : Int
  sc : Int
  ins : List Inp
  hs : List Int
  tag : Int
def hashB (n : Int) : Bool := inR 0 1000002 n
def lenB (r : Rep) : Bool := decide (r.hs.length = r.ins.length / 5)
def replayOk (r : Rep) : Bool := inR 0 99 r.lv && (inR 0 9 r.pl && (inR 0 60 r.sc && (inputsOkB r.ins && (lenB r && (hashB r.tag && r.hs.all hashB)))))
end Go.Proofs.Ytmfhfebakdkkdaa
