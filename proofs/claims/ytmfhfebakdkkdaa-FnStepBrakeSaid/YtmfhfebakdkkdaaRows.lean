/-
  No cell of these rows narrows 'for every input' (looked for: loops, veiled, ifaces, maps, wideKeys, modest, calm, conditions, laid).
  DERIVED. THE GIVEN ROWS OF THIS SEAT. 22 by the template 'for every input the law returns true; each argument reads behind the call as it read before'; 0 by the template 'total and deterministic' (their statements: YtmfhfebakdkkdaaTotals.lean).
  GIVEN WITH THE SEED: the statements are not yours to turn. If you find one false, say at which input.
  Laid BY PROGRAM, IN A SANDBOX (cutbox-rows.mjs): the forced cells as the released guide's own fill.sh prints them over the translation 0eb10d296cb9a9fa… (all of the seat's roots in one cut). By AI agents, Wed Nov 11 2026. No macro, syntax, notation, axiom, sorry.
-/
import Derived.Test.YtmfhfebakdkkdaaChecked
import GoSem.Claim
import GoSem.ClaimJoined
import GoSem.ClaimMapViews
import Derived.JoinedTies
import Derived.KernelRfl
namespace Go.Proofs.Ytmfhfebakdkkdaa
/- THE CELL 'sum', in the pinned program and in every row, IS THE sha256 OF THE DUMP (.gsa) THAT YtmfhfebakdkkdaaProg.lean LOADS. Nothing in Lean hashes anything: it is a label: what it is worth is what the hold of that sum in a sandbox is worth. -/
noncomputable def Try.pinned : Pinned := { name := "ytmfhfebakdkkdaa", sum := "0eb10d296cb9a9fac2391fedc46b1667dfe1a9f66d59e4a0fccd6a574c6904e0", checked := Try.checked }
namespace Rows
def none {H : Type} : Left H := { results := [], args := [] }

/-- 'laws.FnStepGate': WHATEVER THE INPUT: true; the input reads as it did. -/
def fnStepGateSpec : ChangeSpec := { name := "fnStepGate", fn := fun _ => fun
  | [d] => { results := [.lit (.bool true)], args := [d] }
  | _ => none }
def fnStepGateRow : OpenClaim := { program := "ytmfhfebakdkkdaa", sum := "0eb10d296cb9a9fac2391fedc46b1667dfe1a9f66d59e4a0fccd6a574c6904e0", func := "loop.example/replayverifier/laws.FnStepGate", spec := "fnStepGate", unfollowed := true, recurses := true, apart := false }
def FnStepGateSaid : Prop := fnStepGateRow.holds Try.pinned (OpenSpec.ofChange fnStepGateSpec)

/-- ITS FALSE NEIGHBOUR: 'it returns false'. Refute it at one input. -/
def fnStepGateWrong : ChangeSpec := { name := "fnStepGate", fn := fun _ => fun
  | [d] => { results := [.lit (.bool false)], args := [d] }
  | _ => none }
def FnStepGateWrongFalsely : Prop := fnStepGateRow.holds Try.pinned (OpenSpec.ofChange fnStepGateWrong)

/-- 'laws.FnStepWall': WHATEVER THE INPUT: true; the input reads as it did. -/
def fnStepWallSpec : ChangeSpec := { name := "fnStepWall", fn := fun _ => fun
  | [d] => { results := [.lit (.bool true)], args := [d] }
  | _ => none }
def fnStepWallRow : OpenClaim := { program := "ytmfhfebakdkkdaa", sum := "0eb10d296cb9a9fac2391fedc46b1667dfe1a9f66d59e4a0fccd6a574c6904e0", func := "loop.example/replayverifier/laws.FnStepWall", spec := "fnStepWall", unfollowed := true, recurses := true, apart := false }
def FnStepWallSaid : Prop := fnStepWallRow.holds Try.pinned (OpenSpec.ofChange fnStepWallSpec)

/-- ITS FALSE NEIGHBOUR: 'it returns false'. Refute it at one input. -/
def fnStepWallWrong : ChangeSpec := { name := "fnStepWall", fn := fun _ => fun
  | [d] => { results := [.lit (.bool false)], args := [d] }
  | _ => none }
def FnStepWallWrongFalsely : Prop := fnStepWallRow.holds Try.pinned (OpenSpec.ofChange fnStepWallWrong)

/-- 'laws.FnStepBrake': WHATEVER THE INPUT: true; the input reads as it did. -/
def fnStepBrakeSpec : ChangeSpec := { name := "fnStepBrake", fn := fun _ => fun
  | [d] => { results := [.lit (.bool true)], args := [d] }
  | _ => none }
def fnStepBrakeRow : OpenClaim := { program := "ytmfhfebakdkkdaa", sum := "0eb10d296cb9a9fac2391fedc46b1667dfe1a9f66d59e4a0fccd6a574c6904e0", func := "loop.example/replayverifier/laws.FnStepBrake", spec := "fnStepBrake", unfollowed := true, recurses := true, apart := false }
def FnStepBrakeSaid : Prop := fnStepBrakeRow.holds Try.pinned (OpenSpec.ofChange fnStepBrakeSpec)

/-- ITS FALSE NEIGHBOUR: 'it returns false'. Refute it at one input. -/
def fnStepBrakeWrong : ChangeSpec := { name := "fnStepBrake", fn := fun _ => fun
  | [d] => { results := [.lit (.bool false)], args := [d] }
  | _ => none }
def FnStepBrakeWrongFalsely : Prop := fnStepBrakeRow.holds Try.pinned (OpenSpec.ofChange fnStepBrakeWrong)

/-- 'laws.FnStepSpeed': WHATEVER THE INPUT: true; the input reads as it did. -/
def fnStepSpeedSpec : ChangeSpec := { name := "fnStepSpeed", fn := fun _ => fun
  | [d] => { results := [.lit (.bool true)], args := [d] }
  | _ => none }
def fnStepSpeedRow : OpenClaim := { program := "ytmfhfebakdkkdaa", sum := "0eb10d296cb9a9fac2391fedc46b1667dfe1a9f66d59e4a0fccd6a574c6904e0", func := "loop.example/replayverifier/laws.FnStepSpeed", spec := "fnStepSpeed", unfollowed := true, recurses := true, apart := false }
def FnStepSpeedSaid : Prop := fnStepSpeedRow.holds Try.pinned (OpenSpec.ofChange fnStepSpeedSpec)

/-- ITS FALSE NEIGHBOUR: 'it returns false'. Refute it at one input. -/
def fnStepSpeedWrong : ChangeSpec := { name := "fnStepSpeed", fn := fun _ => fun
  | [d] => { results := [.lit (.bool false)], args := [d] }
  | _ => none }
def FnStepSpeedWrongFalsely : Prop := fnStepSpeedRow.holds Try.pinned (OpenSpec.ofChange fnStepSpeedWrong)

/-- 'laws.FnExactRunScore': WHATEVER THE INPUT: true; the input reads as it did. -/
def fnExactRunScoreSpec : ChangeSpec := { name := "fnExactRunScore", fn := fun _ => fun
  | [d1, d2] => { results := [.lit (.bool true)], args := [d1, d2] }
  | _ => none }
def fnExactRunScoreRow : OpenClaim := { program := "ytmfhfebakdkkdaa", sum := "0eb10d296cb9a9fac2391fedc46b1667dfe1a9f66d59e4a0fccd6a574c6904e0", func := "loop.example/replayverifier/laws.FnExactRunScore", spec := "fnExactRunScore", unfollowed := true, recurses := true, apart := false }
def FnExactRunScoreSaid : Prop := fnExactRunScoreRow.holds Try.pinned (OpenSpec.ofChange fnExactRunScoreSpec)

/-- ITS FALSE NEIGHBOUR: 'it returns false'. Refute it at one input. -/
def fnExactRunScoreWrong : ChangeSpec := { name := "fnExactRunScore", fn := fun _ => fun
  | [d1, d2] => { results := [.lit (.bool false)], args := [d1, d2] }
  | _ => none }
def FnExactRunScoreWrongFalsely : Prop := fnExactRunScoreRow.holds Try.pinned (OpenSpec.ofChange fnExactRunScoreWrong)

/-- 'laws.FnRunFail': WHATEVER THE INPUT: true; the input reads as it did. -/
def fnRunFailSpec : ChangeSpec := { name := "fnRunFail", fn := fun _ => fun
  | [d] => { results := [.lit (.bool true)], args := [d] }
  | _ => none }
def fnRunFailRow : OpenClaim := { program := "ytmfhfebakdkkdaa", sum := "0eb10d296cb9a9fac2391fedc46b1667dfe1a9f66d59e4a0fccd6a574c6904e0", func := "loop.example/replayverifier/laws.FnRunFail", spec := "fnRunFail", unfollowed := true, recurses := true, apart := false }
def FnRunFailSaid : Prop := fnRunFailRow.holds Try.pinned (OpenSpec.ofChange fnRunFailSpec)

/-- ITS FALSE NEIGHBOUR: 'it returns false'. Refute it at one input. -/
def fnRunFailWrong : ChangeSpec := { name := "fnRunFail", fn := fun _ => fun
  | [d] => { results := [.lit (.bool false)], args := [d] }
  | _ => none }
def FnRunFailWrongFalsely : Prop := fnRunFailRow.holds Try.pinned (OpenSpec.ofChange fnRunFailWrong)

/-- 'laws.FnRunSame': WHATEVER THE INPUT: true; the input reads as it did. -/
def fnRunSameSpec : ChangeSpec := { name := "fnRunSame", fn := fun _ => fun
  | [d1, d2] => { results := [.lit (.bool true)], args := [d1, d2] }
  | _ => none }
def fnRunSameRow : OpenClaim := { program := "ytmfhfebakdkkdaa", sum := "0eb10d296cb9a9fac2391fedc46b1667dfe1a9f66d59e4a0fccd6a574c6904e0", func := "loop.example/replayverifier/laws.FnRunSame", spec := "fnRunSame", unfollowed := true, recurses := true, apart := false }
def FnRunSameSaid : Prop := fnRunSameRow.holds Try.pinned (OpenSpec.ofChange fnRunSameSpec)

/-- ITS FALSE NEIGHBOUR: 'it returns false'. Refute it at one input. -/
def fnRunSameWrong : ChangeSpec := { name := "fnRunSame", fn := fun _ => fun
  | [d1, d2] => { results := [.lit (.bool false)], args := [d1, d2] }
  | _ => none }
def FnRunSameWrongFalsely : Prop := fnRunSameRow.holds Try.pinned (OpenSpec.ofChange fnRunSameWrong)

/-- 'laws.FnRunBegin': WHATEVER THE INPUT: true; the input reads as it did. -/
def fnRunBeginSpec : ChangeSpec := { name := "fnRunBegin", fn := fun _ => fun
  | [d] => { results := [.lit (.bool true)], args := [d] }
  | _ => none }
def fnRunBeginRow : OpenClaim := { program := "ytmfhfebakdkkdaa", sum := "0eb10d296cb9a9fac2391fedc46b1667dfe1a9f66d59e4a0fccd6a574c6904e0", func := "loop.example/replayverifier/laws.FnRunBegin", spec := "fnRunBegin", unfollowed := true, recurses := true, apart := false }
def FnRunBeginSaid : Prop := fnRunBeginRow.holds Try.pinned (OpenSpec.ofChange fnRunBeginSpec)

/-- ITS FALSE NEIGHBOUR: 'it returns false'. Refute it at one input. -/
def fnRunBeginWrong : ChangeSpec := { name := "fnRunBegin", fn := fun _ => fun
  | [d] => { results := [.lit (.bool false)], args := [d] }
  | _ => none }
def FnRunBeginWrongFalsely : Prop := fnRunBeginRow.holds Try.pinned (OpenSpec.ofChange fnRunBeginWrong)

/-- 'laws.FnRunPath': WHATEVER THE INPUT: true; the input reads as it did. -/
def fnRunPathSpec : ChangeSpec := { name := "fnRunPath", fn := fun _ => fun
  | [d1, d2] => { results := [.lit (.bool true)], args := [d1, d2] }
  | _ => none }
def fnRunPathRow : OpenClaim := { program := "ytmfhfebakdkkdaa", sum := "0eb10d296cb9a9fac2391fedc46b1667dfe1a9f66d59e4a0fccd6a574c6904e0", func := "loop.example/replayverifier/laws.FnRunPath", spec := "fnRunPath", unfollowed := true, recurses := true, apart := false }
def FnRunPathSaid : Prop := fnRunPathRow.holds Try.pinned (OpenSpec.ofChange fnRunPathSpec)

/-- ITS FALSE NEIGHBOUR: 'it returns false'. Refute it at one input. -/
def fnRunPathWrong : ChangeSpec := { name := "fnRunPath", fn := fun _ => fun
  | [d1, d2] => { results := [.lit (.bool false)], args := [d1, d2] }
  | _ => none }
def FnRunPathWrongFalsely : Prop := fnRunPathRow.holds Try.pinned (OpenSpec.ofChange fnRunPathWrong)

/-- 'laws.FnRunValid': WHATEVER THE INPUT: true; the input reads as it did. -/
def fnRunValidSpec : ChangeSpec := { name := "fnRunValid", fn := fun _ => fun
  | [d] => { results := [.lit (.bool true)], args := [d] }
  | _ => none }
def fnRunValidRow : OpenClaim := { program := "ytmfhfebakdkkdaa", sum := "0eb10d296cb9a9fac2391fedc46b1667dfe1a9f66d59e4a0fccd6a574c6904e0", func := "loop.example/replayverifier/laws.FnRunValid", spec := "fnRunValid", unfollowed := true, recurses := true, apart := false }
def FnRunValidSaid : Prop := fnRunValidRow.holds Try.pinned (OpenSpec.ofChange fnRunValidSpec)

/-- ITS FALSE NEIGHBOUR: 'it returns false'. Refute it at one input. -/
def fnRunValidWrong : ChangeSpec := { name := "fnRunValid", fn := fun _ => fun
  | [d] => { results := [.lit (.bool false)], args := [d] }
  | _ => none }
def FnRunValidWrongFalsely : Prop := fnRunValidRow.holds Try.pinned (OpenSpec.ofChange fnRunValidWrong)

/-- 'laws.FnExactRunTo': WHATEVER THE INPUT: true; the input reads as it did. -/
def fnExactRunToSpec : ChangeSpec := { name := "fnExactRunTo", fn := fun _ => fun
  | [d1, d2, d3] => { results := [.lit (.bool true)], args := [d1, d2, d3] }
  | _ => none }
def fnExactRunToRow : OpenClaim := { program := "ytmfhfebakdkkdaa", sum := "0eb10d296cb9a9fac2391fedc46b1667dfe1a9f66d59e4a0fccd6a574c6904e0", func := "loop.example/replayverifier/laws.FnExactRunTo", spec := "fnExactRunTo", unfollowed := true, recurses := true, apart := false }
def FnExactRunToSaid : Prop := fnExactRunToRow.holds Try.pinned (OpenSpec.ofChange fnExactRunToSpec)

/-- ITS FALSE NEIGHBOUR: 'it returns false'. Refute it at one input. -/
def fnExactRunToWrong : ChangeSpec := { name := "fnExactRunTo", fn := fun _ => fun
  | [d1, d2, d3] => { results := [.lit (.bool false)], args := [d1, d2, d3] }
  | _ => none }
def FnExactRunToWrongFalsely : Prop := fnExactRunToRow.holds Try.pinned (OpenSpec.ofChange fnExactRunToWrong)

/-- 'laws.FnScoreLonger': WHATEVER THE INPUT: true; the input reads as it did. -/
def fnScoreLongerSpec : ChangeSpec := { name := "fnScoreLonger", fn := fun _ => fun
  | [d] => { results := [.lit (.bool true)], args := [d] }
  | _ => none }
def fnScoreLongerRow : OpenClaim := { program := "ytmfhfebakdkkdaa", sum := "0eb10d296cb9a9fac2391fedc46b1667dfe1a9f66d59e4a0fccd6a574c6904e0", func := "loop.example/replayverifier/laws.FnScoreLonger", spec := "fnScoreLonger", unfollowed := true, recurses := true, apart := false }
def FnScoreLongerSaid : Prop := fnScoreLongerRow.holds Try.pinned (OpenSpec.ofChange fnScoreLongerSpec)

/-- ITS FALSE NEIGHBOUR: 'it returns false'. Refute it at one input. -/
def fnScoreLongerWrong : ChangeSpec := { name := "fnScoreLonger", fn := fun _ => fun
  | [d] => { results := [.lit (.bool false)], args := [d] }
  | _ => none }
def FnScoreLongerWrongFalsely : Prop := fnScoreLongerRow.holds Try.pinned (OpenSpec.ofChange fnScoreLongerWrong)

/-- 'laws.FnScorePause': WHATEVER THE INPUT: true; the input reads as it did. -/
def fnScorePauseSpec : ChangeSpec := { name := "fnScorePause", fn := fun _ => fun
  | [d] => { results := [.lit (.bool true)], args := [d] }
  | _ => none }
def fnScorePauseRow : OpenClaim := { program := "ytmfhfebakdkkdaa", sum := "0eb10d296cb9a9fac2391fedc46b1667dfe1a9f66d59e4a0fccd6a574c6904e0", func := "loop.example/replayverifier/laws.FnScorePause", spec := "fnScorePause", unfollowed := true, recurses := true, apart := false }
def FnScorePauseSaid : Prop := fnScorePauseRow.holds Try.pinned (OpenSpec.ofChange fnScorePauseSpec)

/-- ITS FALSE NEIGHBOUR: 'it returns false'. Refute it at one input. -/
def fnScorePauseWrong : ChangeSpec := { name := "fnScorePause", fn := fun _ => fun
  | [d] => { results := [.lit (.bool false)], args := [d] }
  | _ => none }
def FnScorePauseWrongFalsely : Prop := fnScorePauseRow.holds Try.pinned (OpenSpec.ofChange fnScorePauseWrong)

/-- 'laws.FnRunNext': WHATEVER THE INPUT: true; the input reads as it did. -/
def fnRunNextSpec : ChangeSpec := { name := "fnRunNext", fn := fun _ => fun
  | [d] => { results := [.lit (.bool true)], args := [d] }
  | _ => none }
def fnRunNextRow : OpenClaim := { program := "ytmfhfebakdkkdaa", sum := "0eb10d296cb9a9fac2391fedc46b1667dfe1a9f66d59e4a0fccd6a574c6904e0", func := "loop.example/replayverifier/laws.FnRunNext", spec := "fnRunNext", unfollowed := true, recurses := true, apart := false }
def FnRunNextSaid : Prop := fnRunNextRow.holds Try.pinned (OpenSpec.ofChange fnRunNextSpec)

/-- ITS FALSE NEIGHBOUR: 'it returns false'. Refute it at one input. -/
def fnRunNextWrong : ChangeSpec := { name := "fnRunNext", fn := fun _ => fun
  | [d] => { results := [.lit (.bool false)], args := [d] }
  | _ => none }
def FnRunNextWrongFalsely : Prop := fnRunNextRow.holds Try.pinned (OpenSpec.ofChange fnRunNextWrong)

/-- 'laws.FnScore': WHATEVER THE INPUT: true; the input reads as it did. -/
def fnScoreSpec : ChangeSpec := { name := "fnScore", fn := fun _ => fun
  | [d] => { results := [.lit (.bool true)], args := [d] }
  | _ => none }
def fnScoreRow : OpenClaim := { program := "ytmfhfebakdkkdaa", sum := "0eb10d296cb9a9fac2391fedc46b1667dfe1a9f66d59e4a0fccd6a574c6904e0", func := "loop.example/replayverifier/laws.FnScore", spec := "fnScore", unfollowed := true, recurses := true, apart := false }
def FnScoreSaid : Prop := fnScoreRow.holds Try.pinned (OpenSpec.ofChange fnScoreSpec)

/-- ITS FALSE NEIGHBOUR: 'it returns false'. Refute it at one input. -/
def fnScoreWrong : ChangeSpec := { name := "fnScore", fn := fun _ => fun
  | [d] => { results := [.lit (.bool false)], args := [d] }
  | _ => none }
def FnScoreWrongFalsely : Prop := fnScoreRow.holds Try.pinned (OpenSpec.ofChange fnScoreWrong)

/-- 'laws.FnRunWalls': WHATEVER THE INPUT: true; the input reads as it did. -/
def fnRunWallsSpec : ChangeSpec := { name := "fnRunWalls", fn := fun _ => fun
  | [d] => { results := [.lit (.bool true)], args := [d] }
  | _ => none }
def fnRunWallsRow : OpenClaim := { program := "ytmfhfebakdkkdaa", sum := "0eb10d296cb9a9fac2391fedc46b1667dfe1a9f66d59e4a0fccd6a574c6904e0", func := "loop.example/replayverifier/laws.FnRunWalls", spec := "fnRunWalls", unfollowed := true, recurses := true, apart := false }
def FnRunWallsSaid : Prop := fnRunWallsRow.holds Try.pinned (OpenSpec.ofChange fnRunWallsSpec)

/-- ITS FALSE NEIGHBOUR: 'it returns false'. Refute it at one input. -/
def fnRunWallsWrong : ChangeSpec := { name := "fnRunWalls", fn := fun _ => fun
  | [d] => { results := [.lit (.bool false)], args := [d] }
  | _ => none }
def FnRunWallsWrongFalsely : Prop := fnRunWallsRow.holds Try.pinned (OpenSpec.ofChange fnRunWallsWrong)

/-- 'laws.FnScoreGates': WHATEVER THE INPUT: true; the input reads as it did. -/
def fnScoreGatesSpec : ChangeSpec := { name := "fnScoreGates", fn := fun _ => fun
  | [d] => { results := [.lit (.bool true)], args := [d] }
  | _ => none }
def fnScoreGatesRow : OpenClaim := { program := "ytmfhfebakdkkdaa", sum := "0eb10d296cb9a9fac2391fedc46b1667dfe1a9f66d59e4a0fccd6a574c6904e0", func := "loop.example/replayverifier/laws.FnScoreGates", spec := "fnScoreGates", unfollowed := true, recurses := true, apart := false }
def FnScoreGatesSaid : Prop := fnScoreGatesRow.holds Try.pinned (OpenSpec.ofChange fnScoreGatesSpec)

/-- ITS FALSE NEIGHBOUR: 'it returns false'. Refute it at one input. -/
def fnScoreGatesWrong : ChangeSpec := { name := "fnScoreGates", fn := fun _ => fun
  | [d] => { results := [.lit (.bool false)], args := [d] }
  | _ => none }
def FnScoreGatesWrongFalsely : Prop := fnScoreGatesRow.holds Try.pinned (OpenSpec.ofChange fnScoreGatesWrong)

/-- 'laws.FnExactRunPath': WHATEVER THE INPUT: true; the input reads as it did. -/
def fnExactRunPathSpec : ChangeSpec := { name := "fnExactRunPath", fn := fun _ => fun
  | [d1, d2] => { results := [.lit (.bool true)], args := [d1, d2] }
  | _ => none }
def fnExactRunPathRow : OpenClaim := { program := "ytmfhfebakdkkdaa", sum := "0eb10d296cb9a9fac2391fedc46b1667dfe1a9f66d59e4a0fccd6a574c6904e0", func := "loop.example/replayverifier/laws.FnExactRunPath", spec := "fnExactRunPath", unfollowed := true, recurses := true, apart := false }
def FnExactRunPathSaid : Prop := fnExactRunPathRow.holds Try.pinned (OpenSpec.ofChange fnExactRunPathSpec)

/-- ITS FALSE NEIGHBOUR: 'it returns false'. Refute it at one input. -/
def fnExactRunPathWrong : ChangeSpec := { name := "fnExactRunPath", fn := fun _ => fun
  | [d1, d2] => { results := [.lit (.bool false)], args := [d1, d2] }
  | _ => none }
def FnExactRunPathWrongFalsely : Prop := fnExactRunPathRow.holds Try.pinned (OpenSpec.ofChange fnExactRunPathWrong)

/-- 'laws.FnScoreIllegal': WHATEVER THE INPUT: true; the input reads as it did. -/
def fnScoreIllegalSpec : ChangeSpec := { name := "fnScoreIllegal", fn := fun _ => fun
  | [d] => { results := [.lit (.bool true)], args := [d] }
  | _ => none }
def fnScoreIllegalRow : OpenClaim := { program := "ytmfhfebakdkkdaa", sum := "0eb10d296cb9a9fac2391fedc46b1667dfe1a9f66d59e4a0fccd6a574c6904e0", func := "loop.example/replayverifier/laws.FnScoreIllegal", spec := "fnScoreIllegal", unfollowed := true, recurses := true, apart := false }
def FnScoreIllegalSaid : Prop := fnScoreIllegalRow.holds Try.pinned (OpenSpec.ofChange fnScoreIllegalSpec)

/-- ITS FALSE NEIGHBOUR: 'it returns false'. Refute it at one input. -/
def fnScoreIllegalWrong : ChangeSpec := { name := "fnScoreIllegal", fn := fun _ => fun
  | [d] => { results := [.lit (.bool false)], args := [d] }
  | _ => none }
def FnScoreIllegalWrongFalsely : Prop := fnScoreIllegalRow.holds Try.pinned (OpenSpec.ofChange fnScoreIllegalWrong)

/-- 'laws.FnHashesPrefix': WHATEVER THE INPUT: true; the input reads as it did. -/
def fnHashesPrefixSpec : ChangeSpec := { name := "fnHashesPrefix", fn := fun _ => fun
  | [d1, d2] => { results := [.lit (.bool true)], args := [d1, d2] }
  | _ => none }
def fnHashesPrefixRow : OpenClaim := { program := "ytmfhfebakdkkdaa", sum := "0eb10d296cb9a9fac2391fedc46b1667dfe1a9f66d59e4a0fccd6a574c6904e0", func := "loop.example/replayverifier/laws.FnHashesPrefix", spec := "fnHashesPrefix", unfollowed := true, recurses := true, apart := false }
def FnHashesPrefixSaid : Prop := fnHashesPrefixRow.holds Try.pinned (OpenSpec.ofChange fnHashesPrefixSpec)

/-- ITS FALSE NEIGHBOUR: 'it returns false'. Refute it at one input. -/
def fnHashesPrefixWrong : ChangeSpec := { name := "fnHashesPrefix", fn := fun _ => fun
  | [d1, d2] => { results := [.lit (.bool false)], args := [d1, d2] }
  | _ => none }
def FnHashesPrefixWrongFalsely : Prop := fnHashesPrefixRow.holds Try.pinned (OpenSpec.ofChange fnHashesPrefixWrong)

/-- 'laws.FnHashes': WHATEVER THE INPUT: true; the input reads as it did. -/
def fnHashesSpec : ChangeSpec := { name := "fnHashes", fn := fun _ => fun
  | [d] => { results := [.lit (.bool true)], args := [d] }
  | _ => none }
def fnHashesRow : OpenClaim := { program := "ytmfhfebakdkkdaa", sum := "0eb10d296cb9a9fac2391fedc46b1667dfe1a9f66d59e4a0fccd6a574c6904e0", func := "loop.example/replayverifier/laws.FnHashes", spec := "fnHashes", unfollowed := true, recurses := true, apart := false }
def FnHashesSaid : Prop := fnHashesRow.holds Try.pinned (OpenSpec.ofChange fnHashesSpec)

/-- ITS FALSE NEIGHBOUR: 'it returns false'. Refute it at one input. -/
def fnHashesWrong : ChangeSpec := { name := "fnHashes", fn := fun _ => fun
  | [d] => { results := [.lit (.bool false)], args := [d] }
  | _ => none }
def FnHashesWrongFalsely : Prop := fnHashesRow.holds Try.pinned (OpenSpec.ofChange fnHashesWrong)

/-- 'laws.FnExactRunHashes': WHATEVER THE INPUT: true; the input reads as it did. -/
def fnExactRunHashesSpec : ChangeSpec := { name := "fnExactRunHashes", fn := fun _ => fun
  | [d1, d2] => { results := [.lit (.bool true)], args := [d1, d2] }
  | _ => none }
def fnExactRunHashesRow : OpenClaim := { program := "ytmfhfebakdkkdaa", sum := "0eb10d296cb9a9fac2391fedc46b1667dfe1a9f66d59e4a0fccd6a574c6904e0", func := "loop.example/replayverifier/laws.FnExactRunHashes", spec := "fnExactRunHashes", unfollowed := true, recurses := true, apart := false }
def FnExactRunHashesSaid : Prop := fnExactRunHashesRow.holds Try.pinned (OpenSpec.ofChange fnExactRunHashesSpec)

/-- ITS FALSE NEIGHBOUR: 'it returns false'. Refute it at one input. -/
def fnExactRunHashesWrong : ChangeSpec := { name := "fnExactRunHashes", fn := fun _ => fun
  | [d1, d2] => { results := [.lit (.bool false)], args := [d1, d2] }
  | _ => none }
def FnExactRunHashesWrongFalsely : Prop := fnExactRunHashesRow.holds Try.pinned (OpenSpec.ofChange fnExactRunHashesWrong)

/- THE SECOND FORM. 'bulk': how many values and letters a reading holds, each counted each time it is reached (what is shared counts as often as it is met; a slice's spare places count too). A statement '..UptoSaid' is the law's where the arguments, and the package variables that the reading takes, are together of bulk at most 1048576: NARROWER than '..Said'. Prove '..Said' where nothing that the law and all that it calls make is longer than what came in: it says more and counts as full. Else prove '..UptoSaid'. A law counts once. -/
mutual
def uptoBulk {H : Type} : DataW H → Nat
  | .lit (.string bytes) => bytes.length + 1
  | .lit _ => 1
  | .nil => 1
  | .ptr d => uptoBulk d + 1
  | .slice elems spare => uptoBulkAll elems + uptoBulkAll spare + 1
  | .agg parts => uptoBulkAll parts + 1
  | .iface _ d => uptoBulk d + 1
  | .map entries => uptoBulkEntries entries + 1
  | .held _ => 1
def uptoBulkAll {H : Type} : List (DataW H) → Nat
  | [] => 0
  | d :: r => uptoBulk d + uptoBulkAll r
def uptoBulkEntries {H : Type} : List (Lit × DataW H) → Nat
  | [] => 0
  | x :: r => uptoBulkEntry x + uptoBulkEntries r
def uptoBulkEntry {H : Type} : Lit × DataW H → Nat
  | (.string bytes, d) => bytes.length + uptoBulk d + 1
  | (_, d) => uptoBulk d + 1
 end
def uptoSmall : (H : Type) → List (DataW H) → Bool := fun _ ds => decide (uptoBulkAll ds ≤ 1048576)
def OpenSpec.upto (s : _root_.Go.ChangeSpec) : _root_.Go.OpenSpec := { _root_.Go.OpenSpec.ofChange s with cond := some uptoSmall }

/-- 'laws.FnStepGate', WHERE WHAT IT READS IS OF BULK AT MOST 1048576: true; the input reads as it did. -/
def fnStepGateUptoRow : OpenClaim := { program := "ytmfhfebakdkkdaa", sum := "0eb10d296cb9a9fac2391fedc46b1667dfe1a9f66d59e4a0fccd6a574c6904e0", func := "loop.example/replayverifier/laws.FnStepGate", spec := "fnStepGate", unfollowed := true, recurses := true, apart := false, narrowed := true }
def FnStepGateUptoSaid : Prop := fnStepGateUptoRow.holds Try.pinned (OpenSpec.upto fnStepGateSpec)

/-- 'laws.FnStepWall', WHERE WHAT IT READS IS OF BULK AT MOST 1048576: true; the input reads as it did. -/
def fnStepWallUptoRow : OpenClaim := { program := "ytmfhfebakdkkdaa", sum := "0eb10d296cb9a9fac2391fedc46b1667dfe1a9f66d59e4a0fccd6a574c6904e0", func := "loop.example/replayverifier/laws.FnStepWall", spec := "fnStepWall", unfollowed := true, recurses := true, apart := false, narrowed := true }
def FnStepWallUptoSaid : Prop := fnStepWallUptoRow.holds Try.pinned (OpenSpec.upto fnStepWallSpec)

/-- 'laws.FnStepBrake', WHERE WHAT IT READS IS OF BULK AT MOST 1048576: true; the input reads as it did. -/
def fnStepBrakeUptoRow : OpenClaim := { program := "ytmfhfebakdkkdaa", sum := "0eb10d296cb9a9fac2391fedc46b1667dfe1a9f66d59e4a0fccd6a574c6904e0", func := "loop.example/replayverifier/laws.FnStepBrake", spec := "fnStepBrake", unfollowed := true, recurses := true, apart := false, narrowed := true }
def FnStepBrakeUptoSaid : Prop := fnStepBrakeUptoRow.holds Try.pinned (OpenSpec.upto fnStepBrakeSpec)

/-- 'laws.FnStepSpeed', WHERE WHAT IT READS IS OF BULK AT MOST 1048576: true; the input reads as it did. -/
def fnStepSpeedUptoRow : OpenClaim := { program := "ytmfhfebakdkkdaa", sum := "0eb10d296cb9a9fac2391fedc46b1667dfe1a9f66d59e4a0fccd6a574c6904e0", func := "loop.example/replayverifier/laws.FnStepSpeed", spec := "fnStepSpeed", unfollowed := true, recurses := true, apart := false, narrowed := true }
def FnStepSpeedUptoSaid : Prop := fnStepSpeedUptoRow.holds Try.pinned (OpenSpec.upto fnStepSpeedSpec)

/-- 'laws.FnExactRunScore', WHERE WHAT IT READS IS OF BULK AT MOST 1048576: true; the input reads as it did. -/
def fnExactRunScoreUptoRow : OpenClaim := { program := "ytmfhfebakdkkdaa", sum := "0eb10d296cb9a9fac2391fedc46b1667dfe1a9f66d59e4a0fccd6a574c6904e0", func := "loop.example/replayverifier/laws.FnExactRunScore", spec := "fnExactRunScore", unfollowed := true, recurses := true, apart := false, narrowed := true }
def FnExactRunScoreUptoSaid : Prop := fnExactRunScoreUptoRow.holds Try.pinned (OpenSpec.upto fnExactRunScoreSpec)

/-- 'laws.FnRunFail', WHERE WHAT IT READS IS OF BULK AT MOST 1048576: true; the input reads as it did. -/
def fnRunFailUptoRow : OpenClaim := { program := "ytmfhfebakdkkdaa", sum := "0eb10d296cb9a9fac2391fedc46b1667dfe1a9f66d59e4a0fccd6a574c6904e0", func := "loop.example/replayverifier/laws.FnRunFail", spec := "fnRunFail", unfollowed := true, recurses := true, apart := false, narrowed := true }
def FnRunFailUptoSaid : Prop := fnRunFailUptoRow.holds Try.pinned (OpenSpec.upto fnRunFailSpec)

/-- 'laws.FnRunSame', WHERE WHAT IT READS IS OF BULK AT MOST 1048576: true; the input reads as it did. -/
def fnRunSameUptoRow : OpenClaim := { program := "ytmfhfebakdkkdaa", sum := "0eb10d296cb9a9fac2391fedc46b1667dfe1a9f66d59e4a0fccd6a574c6904e0", func := "loop.example/replayverifier/laws.FnRunSame", spec := "fnRunSame", unfollowed := true, recurses := true, apart := false, narrowed := true }
def FnRunSameUptoSaid : Prop := fnRunSameUptoRow.holds Try.pinned (OpenSpec.upto fnRunSameSpec)

/-- 'laws.FnRunBegin', WHERE WHAT IT READS IS OF BULK AT MOST 1048576: true; the input reads as it did. -/
def fnRunBeginUptoRow : OpenClaim := { program := "ytmfhfebakdkkdaa", sum := "0eb10d296cb9a9fac2391fedc46b1667dfe1a9f66d59e4a0fccd6a574c6904e0", func := "loop.example/replayverifier/laws.FnRunBegin", spec := "fnRunBegin", unfollowed := true, recurses := true, apart := false, narrowed := true }
def FnRunBeginUptoSaid : Prop := fnRunBeginUptoRow.holds Try.pinned (OpenSpec.upto fnRunBeginSpec)

/-- 'laws.FnRunPath', WHERE WHAT IT READS IS OF BULK AT MOST 1048576: true; the input reads as it did. -/
def fnRunPathUptoRow : OpenClaim := { program := "ytmfhfebakdkkdaa", sum := "0eb10d296cb9a9fac2391fedc46b1667dfe1a9f66d59e4a0fccd6a574c6904e0", func := "loop.example/replayverifier/laws.FnRunPath", spec := "fnRunPath", unfollowed := true, recurses := true, apart := false, narrowed := true }
def FnRunPathUptoSaid : Prop := fnRunPathUptoRow.holds Try.pinned (OpenSpec.upto fnRunPathSpec)

/-- 'laws.FnRunValid', WHERE WHAT IT READS IS OF BULK AT MOST 1048576: true; the input reads as it did. -/
def fnRunValidUptoRow : OpenClaim := { program := "ytmfhfebakdkkdaa", sum := "0eb10d296cb9a9fac2391fedc46b1667dfe1a9f66d59e4a0fccd6a574c6904e0", func := "loop.example/replayverifier/laws.FnRunValid", spec := "fnRunValid", unfollowed := true, recurses := true, apart := false, narrowed := true }
def FnRunValidUptoSaid : Prop := fnRunValidUptoRow.holds Try.pinned (OpenSpec.upto fnRunValidSpec)

/-- 'laws.FnExactRunTo', WHERE WHAT IT READS IS OF BULK AT MOST 1048576: true; the input reads as it did. -/
def fnExactRunToUptoRow : OpenClaim := { program := "ytmfhfebakdkkdaa", sum := "0eb10d296cb9a9fac2391fedc46b1667dfe1a9f66d59e4a0fccd6a574c6904e0", func := "loop.example/replayverifier/laws.FnExactRunTo", spec := "fnExactRunTo", unfollowed := true, recurses := true, apart := false, narrowed := true }
def FnExactRunToUptoSaid : Prop := fnExactRunToUptoRow.holds Try.pinned (OpenSpec.upto fnExactRunToSpec)

/-- 'laws.FnScoreLonger', WHERE WHAT IT READS IS OF BULK AT MOST 1048576: true; the input reads as it did. -/
def fnScoreLongerUptoRow : OpenClaim := { program := "ytmfhfebakdkkdaa", sum := "0eb10d296cb9a9fac2391fedc46b1667dfe1a9f66d59e4a0fccd6a574c6904e0", func := "loop.example/replayverifier/laws.FnScoreLonger", spec := "fnScoreLonger", unfollowed := true, recurses := true, apart := false, narrowed := true }
def FnScoreLongerUptoSaid : Prop := fnScoreLongerUptoRow.holds Try.pinned (OpenSpec.upto fnScoreLongerSpec)

/-- 'laws.FnScorePause', WHERE WHAT IT READS IS OF BULK AT MOST 1048576: true; the input reads as it did. -/
def fnScorePauseUptoRow : OpenClaim := { program := "ytmfhfebakdkkdaa", sum := "0eb10d296cb9a9fac2391fedc46b1667dfe1a9f66d59e4a0fccd6a574c6904e0", func := "loop.example/replayverifier/laws.FnScorePause", spec := "fnScorePause", unfollowed := true, recurses := true, apart := false, narrowed := true }
def FnScorePauseUptoSaid : Prop := fnScorePauseUptoRow.holds Try.pinned (OpenSpec.upto fnScorePauseSpec)

/-- 'laws.FnRunNext', WHERE WHAT IT READS IS OF BULK AT MOST 1048576: true; the input reads as it did. -/
def fnRunNextUptoRow : OpenClaim := { program := "ytmfhfebakdkkdaa", sum := "0eb10d296cb9a9fac2391fedc46b1667dfe1a9f66d59e4a0fccd6a574c6904e0", func := "loop.example/replayverifier/laws.FnRunNext", spec := "fnRunNext", unfollowed := true, recurses := true, apart := false, narrowed := true }
def FnRunNextUptoSaid : Prop := fnRunNextUptoRow.holds Try.pinned (OpenSpec.upto fnRunNextSpec)

/-- 'laws.FnScore', WHERE WHAT IT READS IS OF BULK AT MOST 1048576: true; the input reads as it did. -/
def fnScoreUptoRow : OpenClaim := { program := "ytmfhfebakdkkdaa", sum := "0eb10d296cb9a9fac2391fedc46b1667dfe1a9f66d59e4a0fccd6a574c6904e0", func := "loop.example/replayverifier/laws.FnScore", spec := "fnScore", unfollowed := true, recurses := true, apart := false, narrowed := true }
def FnScoreUptoSaid : Prop := fnScoreUptoRow.holds Try.pinned (OpenSpec.upto fnScoreSpec)

/-- 'laws.FnRunWalls', WHERE WHAT IT READS IS OF BULK AT MOST 1048576: true; the input reads as it did. -/
def fnRunWallsUptoRow : OpenClaim := { program := "ytmfhfebakdkkdaa", sum := "0eb10d296cb9a9fac2391fedc46b1667dfe1a9f66d59e4a0fccd6a574c6904e0", func := "loop.example/replayverifier/laws.FnRunWalls", spec := "fnRunWalls", unfollowed := true, recurses := true, apart := false, narrowed := true }
def FnRunWallsUptoSaid : Prop := fnRunWallsUptoRow.holds Try.pinned (OpenSpec.upto fnRunWallsSpec)

/-- 'laws.FnScoreGates', WHERE WHAT IT READS IS OF BULK AT MOST 1048576: true; the input reads as it did. -/
def fnScoreGatesUptoRow : OpenClaim := { program := "ytmfhfebakdkkdaa", sum := "0eb10d296cb9a9fac2391fedc46b1667dfe1a9f66d59e4a0fccd6a574c6904e0", func := "loop.example/replayverifier/laws.FnScoreGates", spec := "fnScoreGates", unfollowed := true, recurses := true, apart := false, narrowed := true }
def FnScoreGatesUptoSaid : Prop := fnScoreGatesUptoRow.holds Try.pinned (OpenSpec.upto fnScoreGatesSpec)

/-- 'laws.FnExactRunPath', WHERE WHAT IT READS IS OF BULK AT MOST 1048576: true; the input reads as it did. -/
def fnExactRunPathUptoRow : OpenClaim := { program := "ytmfhfebakdkkdaa", sum := "0eb10d296cb9a9fac2391fedc46b1667dfe1a9f66d59e4a0fccd6a574c6904e0", func := "loop.example/replayverifier/laws.FnExactRunPath", spec := "fnExactRunPath", unfollowed := true, recurses := true, apart := false, narrowed := true }
def FnExactRunPathUptoSaid : Prop := fnExactRunPathUptoRow.holds Try.pinned (OpenSpec.upto fnExactRunPathSpec)

/-- 'laws.FnScoreIllegal', WHERE WHAT IT READS IS OF BULK AT MOST 1048576: true; the input reads as it did. -/
def fnScoreIllegalUptoRow : OpenClaim := { program := "ytmfhfebakdkkdaa", sum := "0eb10d296cb9a9fac2391fedc46b1667dfe1a9f66d59e4a0fccd6a574c6904e0", func := "loop.example/replayverifier/laws.FnScoreIllegal", spec := "fnScoreIllegal", unfollowed := true, recurses := true, apart := false, narrowed := true }
def FnScoreIllegalUptoSaid : Prop := fnScoreIllegalUptoRow.holds Try.pinned (OpenSpec.upto fnScoreIllegalSpec)

/-- 'laws.FnHashesPrefix', WHERE WHAT IT READS IS OF BULK AT MOST 1048576: true; the input reads as it did. -/
def fnHashesPrefixUptoRow : OpenClaim := { program := "ytmfhfebakdkkdaa", sum := "0eb10d296cb9a9fac2391fedc46b1667dfe1a9f66d59e4a0fccd6a574c6904e0", func := "loop.example/replayverifier/laws.FnHashesPrefix", spec := "fnHashesPrefix", unfollowed := true, recurses := true, apart := false, narrowed := true }
def FnHashesPrefixUptoSaid : Prop := fnHashesPrefixUptoRow.holds Try.pinned (OpenSpec.upto fnHashesPrefixSpec)

/-- 'laws.FnHashes', WHERE WHAT IT READS IS OF BULK AT MOST 1048576: true; the input reads as it did. -/
def fnHashesUptoRow : OpenClaim := { program := "ytmfhfebakdkkdaa", sum := "0eb10d296cb9a9fac2391fedc46b1667dfe1a9f66d59e4a0fccd6a574c6904e0", func := "loop.example/replayverifier/laws.FnHashes", spec := "fnHashes", unfollowed := true, recurses := true, apart := false, narrowed := true }
def FnHashesUptoSaid : Prop := fnHashesUptoRow.holds Try.pinned (OpenSpec.upto fnHashesSpec)

/-- 'laws.FnExactRunHashes', WHERE WHAT IT READS IS OF BULK AT MOST 1048576: true; the input reads as it did. -/
def fnExactRunHashesUptoRow : OpenClaim := { program := "ytmfhfebakdkkdaa", sum := "0eb10d296cb9a9fac2391fedc46b1667dfe1a9f66d59e4a0fccd6a574c6904e0", func := "loop.example/replayverifier/laws.FnExactRunHashes", spec := "fnExactRunHashes", unfollowed := true, recurses := true, apart := false, narrowed := true }
def FnExactRunHashesUptoSaid : Prop := fnExactRunHashesUptoRow.holds Try.pinned (OpenSpec.upto fnExactRunHashesSpec)

end Rows
end Go.Proofs.Ytmfhfebakdkkdaa
