/-
  No cell of these rows narrows 'for every input' (looked for: loops, veiled, ifaces, maps, wideKeys, modest, calm, conditions, laid).
  DERIVED. THE GIVEN ROWS OF THIS SEAT. 3 by the template 'for every input the law returns true; each argument reads behind the call as it read before'; 0 by the template 'total and deterministic' (their statements: YtmfhfebakdkkdaaGreatTotals.lean).
  GIVEN WITH THE SEED: the statements are not yours to turn. If you find one false, say at which input.
  Laid BY PROGRAM, IN A SANDBOX (cutbox-rows.mjs): the forced cells as the released guide's own fill.sh prints them over the translation 21df6600f784e248… (all of the seat's roots in one cut). By AI agents, Wed Nov 11 2026. No macro, syntax, notation, axiom, sorry.
-/
import Derived.Test.YtmfhfebakdkkdaaGreatChecked
import GoSem.Claim
import GoSem.ClaimJoined
import GoSem.ClaimMapViews
import Derived.JoinedTies
import Derived.KernelRfl
namespace Go.Proofs.YtmfhfebakdkkdaaGreat
/- THE CELL 'sum', in the pinned program and in every row, IS THE sha256 OF THE DUMP (.gsa) THAT YtmfhfebakdkkdaaGreatProg.lean LOADS. Nothing in Lean hashes anything: it is a label: what it is worth is what the hold of that sum in a sandbox is worth. -/
noncomputable def Tryz.pinned : Pinned := { name := "ytmfhfebakdkkdaagreat", sum := "21df6600f784e248776da4ea3042305fa7e7315fb255a0dc4cfc64108273208e", checked := Tryz.checked }
namespace Rows
def none {H : Type} : Left H := { results := [], args := [] }

/-- 'laws.FnMake': WHATEVER THE INPUT: true; the input reads as it did. -/
def fnMakeSpec : ChangeSpec := { name := "fnMake", fn := fun _ => fun
  | [d] => { results := [.lit (.bool true)], args := [d] }
  | _ => none }
def fnMakeRow : OpenClaim := { program := "ytmfhfebakdkkdaagreat", sum := "21df6600f784e248776da4ea3042305fa7e7315fb255a0dc4cfc64108273208e", func := "loop.example/replayverifier/laws.FnMake", spec := "fnMake", unfollowed := true, recurses := true, apart := false }
def FnMakeSaid : Prop := fnMakeRow.holds Tryz.pinned (OpenSpec.ofChange fnMakeSpec)

/-- ITS FALSE NEIGHBOUR: 'it returns false'. Refute it at one input. -/
def fnMakeWrong : ChangeSpec := { name := "fnMake", fn := fun _ => fun
  | [d] => { results := [.lit (.bool false)], args := [d] }
  | _ => none }
def FnMakeWrongFalsely : Prop := fnMakeRow.holds Tryz.pinned (OpenSpec.ofChange fnMakeWrong)

/-- 'laws.FnMakeSame': WHATEVER THE INPUT: true; the input reads as it did. -/
def fnMakeSameSpec : ChangeSpec := { name := "fnMakeSame", fn := fun _ => fun
  | [d1, d2] => { results := [.lit (.bool true)], args := [d1, d2] }
  | _ => none }
def fnMakeSameRow : OpenClaim := { program := "ytmfhfebakdkkdaagreat", sum := "21df6600f784e248776da4ea3042305fa7e7315fb255a0dc4cfc64108273208e", func := "loop.example/replayverifier/laws.FnMakeSame", spec := "fnMakeSame", unfollowed := true, recurses := true, apart := false }
def FnMakeSameSaid : Prop := fnMakeSameRow.holds Tryz.pinned (OpenSpec.ofChange fnMakeSameSpec)

/-- ITS FALSE NEIGHBOUR: 'it returns false'. Refute it at one input. -/
def fnMakeSameWrong : ChangeSpec := { name := "fnMakeSame", fn := fun _ => fun
  | [d1, d2] => { results := [.lit (.bool false)], args := [d1, d2] }
  | _ => none }
def FnMakeSameWrongFalsely : Prop := fnMakeSameRow.holds Tryz.pinned (OpenSpec.ofChange fnMakeSameWrong)

/-- 'laws.FnExactReplayMake': WHATEVER THE INPUT: true; the input reads as it did. -/
def fnExactReplayMakeSpec : ChangeSpec := { name := "fnExactReplayMake", fn := fun _ => fun
  | [d1, d2, d3, d4] => { results := [.lit (.bool true)], args := [d1, d2, d3, d4] }
  | _ => none }
def fnExactReplayMakeRow : OpenClaim := { program := "ytmfhfebakdkkdaagreat", sum := "21df6600f784e248776da4ea3042305fa7e7315fb255a0dc4cfc64108273208e", func := "loop.example/replayverifier/laws.FnExactReplayMake", spec := "fnExactReplayMake", unfollowed := true, recurses := true, apart := false }
def FnExactReplayMakeSaid : Prop := fnExactReplayMakeRow.holds Tryz.pinned (OpenSpec.ofChange fnExactReplayMakeSpec)

/-- ITS FALSE NEIGHBOUR: 'it returns false'. Refute it at one input. -/
def fnExactReplayMakeWrong : ChangeSpec := { name := "fnExactReplayMake", fn := fun _ => fun
  | [d1, d2, d3, d4] => { results := [.lit (.bool false)], args := [d1, d2, d3, d4] }
  | _ => none }
def FnExactReplayMakeWrongFalsely : Prop := fnExactReplayMakeRow.holds Tryz.pinned (OpenSpec.ofChange fnExactReplayMakeWrong)

/- THE SECOND FORM. 'bulk': how many values and letters a reading holds, each counted each time it is reached (what is shared counts as often as it is met; a slice's spare places count too). A statement '..UptoSaid' is the law's where the arguments, and the package variables that the reading takes, are together of bulk at most 1048576: NARROWER than '..Said'. Prove '..Said' where nothing that the law and all that it calls make is longer than what came in: it says more and counts as full. Else prove '..UptoSaid'. A law counts once. -/
mutual
def uptoBulk {H : Type} : DataW H → Nat
  | .lit (.string bytes) => bytes.length + 1
  | .lit _ => 1
  | .nil => 1
  | .ptr d => uptoBulk d + 1
  | .slice elems spare => uptoBulkAll elems + uptoBulkAll spare + 1
  | .agg parts => uptoBulkAll parts + 1
  | .iface _ d => uptoBulk d + 1
  | .map entries => uptoBulkEntries entries + 1
  | .held _ => 1
def uptoBulkAll {H : Type} : List (DataW H) → Nat
  | [] => 0
  | d :: r => uptoBulk d + uptoBulkAll r
def uptoBulkEntries {H : Type} : List (Lit × DataW H) → Nat
  | [] => 0
  | x :: r => uptoBulkEntry x + uptoBulkEntries r
def uptoBulkEntry {H : Type} : Lit × DataW H → Nat
  | (.string bytes, d) => bytes.length + uptoBulk d + 1
  | (_, d) => uptoBulk d + 1
 end
def uptoSmall : (H : Type) → List (DataW H) → Bool := fun _ ds => decide (uptoBulkAll ds ≤ 1048576)
def OpenSpec.upto (s : _root_.Go.ChangeSpec) : _root_.Go.OpenSpec := { _root_.Go.OpenSpec.ofChange s with cond := some uptoSmall }

/-- 'laws.FnMake', WHERE WHAT IT READS IS OF BULK AT MOST 1048576: true; the input reads as it did. -/
def fnMakeUptoRow : OpenClaim := { program := "ytmfhfebakdkkdaagreat", sum := "21df6600f784e248776da4ea3042305fa7e7315fb255a0dc4cfc64108273208e", func := "loop.example/replayverifier/laws.FnMake", spec := "fnMake", unfollowed := true, recurses := true, apart := false, narrowed := true }
def FnMakeUptoSaid : Prop := fnMakeUptoRow.holds Tryz.pinned (OpenSpec.upto fnMakeSpec)

/-- 'laws.FnMakeSame', WHERE WHAT IT READS IS OF BULK AT MOST 1048576: true; the input reads as it did. -/
def fnMakeSameUptoRow : OpenClaim := { program := "ytmfhfebakdkkdaagreat", sum := "21df6600f784e248776da4ea3042305fa7e7315fb255a0dc4cfc64108273208e", func := "loop.example/replayverifier/laws.FnMakeSame", spec := "fnMakeSame", unfollowed := true, recurses := true, apart := false, narrowed := true }
def FnMakeSameUptoSaid : Prop := fnMakeSameUptoRow.holds Tryz.pinned (OpenSpec.upto fnMakeSameSpec)

/-- 'laws.FnExactReplayMake', WHERE WHAT IT READS IS OF BULK AT MOST 1048576: true; the input reads as it did. -/
def fnExactReplayMakeUptoRow : OpenClaim := { program := "ytmfhfebakdkkdaagreat", sum := "21df6600f784e248776da4ea3042305fa7e7315fb255a0dc4cfc64108273208e", func := "loop.example/replayverifier/laws.FnExactReplayMake", spec := "fnExactReplayMake", unfollowed := true, recurses := true, apart := false, narrowed := true }
def FnExactReplayMakeUptoSaid : Prop := fnExactReplayMakeUptoRow.holds Tryz.pinned (OpenSpec.upto fnExactReplayMakeSpec)

end Rows
end Go.Proofs.YtmfhfebakdkkdaaGreat
