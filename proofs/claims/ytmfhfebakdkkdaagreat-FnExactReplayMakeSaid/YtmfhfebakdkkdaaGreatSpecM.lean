/- The reference's EngineValid, EngineStep, EngineStart, InputsLegal. (Round B) -/
import Derived.Test.YtmfhfebakdkkdaaGreatZRun
namespace Go.Proofs.YtmfhfebakdkkdaaGreat
open Go.ChangeShapes Go.WideShapes Go.ChangeAt Go.RowKit
theorem vOk_xyb {x y : Int} (h : vOk ⟨x, y⟩ = true) : -1000000 ≤ x ∧ x ≤ 1000000 ∧ -1000000 ≤ y ∧ y ≤ 1000000 := vOk_iff.1 h
end Go.Proofs.YtmfhfebakdkkdaaGreat
