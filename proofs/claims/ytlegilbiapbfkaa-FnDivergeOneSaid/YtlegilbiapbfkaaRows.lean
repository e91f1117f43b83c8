/-
  No cell of these rows narrows 'for every input' (looked for: loops, veiled, ifaces, maps, wideKeys, modest, calm, conditions, laid).
  DERIVED. THE GIVEN ROWS OF THIS SEAT. 6 by the template 'for every input the law returns true; each argument reads behind the call as it read before'; 0 by the template 'total and deterministic' (their statements: YtlegilbiapbfkaaTotals.lean).
  GIVEN WITH THE SEED: the statements are not yours to turn. If you find one false, say at which input.
  Laid BY PROGRAM, IN A SANDBOX (cutbox-rows.mjs): the forced cells as the released guide's own fill.sh prints them over the translation ec58334a4309101e… (all of the seat's roots in one cut). By AI agents, Wed Nov 11 2026. No macro, syntax, notation, axiom, sorry.
-/
import Derived.Test.YtlegilbiapbfkaaChecked
import GoSem.Claim
import GoSem.ClaimJoined
import GoSem.ClaimMapViews
import Derived.JoinedTies
import Derived.KernelRfl
namespace Go.Proofs.Ytlegilbiapbfkaa
/- THE CELL 'sum', in the pinned program and in every row, IS THE sha256 OF THE DUMP (.gsa) THAT YtlegilbiapbfkaaProg.lean LOADS. Nothing in Lean hashes anything: it is a label: what it is worth is what the hold of that sum in a sandbox is worth. -/
noncomputable def Try.pinned : Pinned := { name := "ytlegilbiapbfkaa", sum := "ec58334a4309101e07435ef8609e9c8901677499fd45260977d0f50732861c40", checked := Try.checked }
namespace Rows
def none {H : Type} : Left H := { results := [], args := [] }

/-- 'laws.FnExactDivergeFirst': WHATEVER THE INPUT: true; the input reads as it did. -/
def fnExactDivergeFirstSpec : ChangeSpec := { name := "fnExactDivergeFirst", fn := fun _ => fun
  | [d1, d2] => { results := [.lit (.bool true)], args := [d1, d2] }
  | _ => none }
def fnExactDivergeFirstRow : OpenClaim := { program := "ytlegilbiapbfkaa", sum := "ec58334a4309101e07435ef8609e9c8901677499fd45260977d0f50732861c40", func := "loop.example/replayverifier/laws.FnExactDivergeFirst", spec := "fnExactDivergeFirst", inPlace := ["(*sync.WaitGroup).Add", "internal/race.ReleaseMerge", "internal/race.Disable", "internal/race.Enable", "internal/synctest.IsInBubble", "internal/synctest.Associate[sync.WaitGroup]", "sync.fatal", "sync/atomic.OrUint64", "sync/atomic.AddUint64", "internal/race.Read", "sync/atomic.LoadUint64", "sync/atomic.StoreUint64", "internal/synctest.Disassociate[sync.WaitGroup]", "sync.runtime_Semrelease", "(*sync.WaitGroup).Done", "(*sync.WaitGroup).Wait", "internal/race.Acquire", "internal/synctest.IsAssociated[sync.WaitGroup]", "sync/atomic.CompareAndSwapUint64", "internal/race.Write", "sync.runtime_SemacquireWaitGroup"], unfollowed := true, recurses := true, leaving := true, apart := false }
def FnExactDivergeFirstSaid : Prop := fnExactDivergeFirstRow.holds Try.pinned (OpenSpec.ofChange fnExactDivergeFirstSpec)

/-- ITS FALSE NEIGHBOUR: 'it returns false'. Refute it at one input. -/
def fnExactDivergeFirstWrong : ChangeSpec := { name := "fnExactDivergeFirst", fn := fun _ => fun
  | [d1, d2] => { results := [.lit (.bool false)], args := [d1, d2] }
  | _ => none }
def FnExactDivergeFirstWrongFalsely : Prop := fnExactDivergeFirstRow.holds Try.pinned (OpenSpec.ofChange fnExactDivergeFirstWrong)

/-- 'laws.FnExactDivergeCount': WHATEVER THE INPUT: true; the input reads as it did. -/
def fnExactDivergeCountSpec : ChangeSpec := { name := "fnExactDivergeCount", fn := fun _ => fun
  | [d1, d2] => { results := [.lit (.bool true)], args := [d1, d2] }
  | _ => none }
def fnExactDivergeCountRow : OpenClaim := { program := "ytlegilbiapbfkaa", sum := "ec58334a4309101e07435ef8609e9c8901677499fd45260977d0f50732861c40", func := "loop.example/replayverifier/laws.FnExactDivergeCount", spec := "fnExactDivergeCount", inPlace := ["(*sync.WaitGroup).Add", "internal/race.ReleaseMerge", "internal/race.Disable", "internal/race.Enable", "internal/synctest.IsInBubble", "internal/synctest.Associate[sync.WaitGroup]", "sync.fatal", "sync/atomic.OrUint64", "sync/atomic.AddUint64", "internal/race.Read", "sync/atomic.LoadUint64", "sync/atomic.StoreUint64", "internal/synctest.Disassociate[sync.WaitGroup]", "sync.runtime_Semrelease", "(*sync.WaitGroup).Done", "(*sync.WaitGroup).Wait", "internal/race.Acquire", "internal/synctest.IsAssociated[sync.WaitGroup]", "sync/atomic.CompareAndSwapUint64", "internal/race.Write", "sync.runtime_SemacquireWaitGroup"], unfollowed := true, recurses := true, leaving := true, apart := false }
def FnExactDivergeCountSaid : Prop := fnExactDivergeCountRow.holds Try.pinned (OpenSpec.ofChange fnExactDivergeCountSpec)

/-- ITS FALSE NEIGHBOUR: 'it returns false'. Refute it at one input. -/
def fnExactDivergeCountWrong : ChangeSpec := { name := "fnExactDivergeCount", fn := fun _ => fun
  | [d1, d2] => { results := [.lit (.bool false)], args := [d1, d2] }
  | _ => none }
def FnExactDivergeCountWrongFalsely : Prop := fnExactDivergeCountRow.holds Try.pinned (OpenSpec.ofChange fnExactDivergeCountWrong)

/-- 'laws.FnDivergeOne': WHATEVER THE INPUT: true; the input reads as it did. -/
def fnDivergeOneSpec : ChangeSpec := { name := "fnDivergeOne", fn := fun _ => fun
  | [d1, d2] => { results := [.lit (.bool true)], args := [d1, d2] }
  | _ => none }
def fnDivergeOneRow : OpenClaim := { program := "ytlegilbiapbfkaa", sum := "ec58334a4309101e07435ef8609e9c8901677499fd45260977d0f50732861c40", func := "loop.example/replayverifier/laws.FnDivergeOne", spec := "fnDivergeOne", inPlace := ["(*sync.WaitGroup).Add", "internal/race.ReleaseMerge", "internal/race.Disable", "internal/race.Enable", "internal/synctest.IsInBubble", "internal/synctest.Associate[sync.WaitGroup]", "sync.fatal", "sync/atomic.OrUint64", "sync/atomic.AddUint64", "internal/race.Read", "sync/atomic.LoadUint64", "sync/atomic.StoreUint64", "internal/synctest.Disassociate[sync.WaitGroup]", "sync.runtime_Semrelease", "(*sync.WaitGroup).Done", "(*sync.WaitGroup).Wait", "internal/race.Acquire", "internal/synctest.IsAssociated[sync.WaitGroup]", "sync/atomic.CompareAndSwapUint64", "internal/race.Write", "sync.runtime_SemacquireWaitGroup"], unfollowed := true, recurses := true, leaving := true, apart := false }
def FnDivergeOneSaid : Prop := fnDivergeOneRow.holds Try.pinned (OpenSpec.ofChange fnDivergeOneSpec)

/-- ITS FALSE NEIGHBOUR: 'it returns false'. Refute it at one input. -/
def fnDivergeOneWrong : ChangeSpec := { name := "fnDivergeOne", fn := fun _ => fun
  | [d1, d2] => { results := [.lit (.bool false)], args := [d1, d2] }
  | _ => none }
def FnDivergeOneWrongFalsely : Prop := fnDivergeOneRow.holds Try.pinned (OpenSpec.ofChange fnDivergeOneWrong)

/-- 'laws.FnDivergeOrder': WHATEVER THE INPUT: true; the input reads as it did. -/
def fnDivergeOrderSpec : ChangeSpec := { name := "fnDivergeOrder", fn := fun _ => fun
  | [d] => { results := [.lit (.bool true)], args := [d] }
  | _ => none }
def fnDivergeOrderRow : OpenClaim := { program := "ytlegilbiapbfkaa", sum := "ec58334a4309101e07435ef8609e9c8901677499fd45260977d0f50732861c40", func := "loop.example/replayverifier/laws.FnDivergeOrder", spec := "fnDivergeOrder", inPlace := ["(*sync.WaitGroup).Add", "internal/race.ReleaseMerge", "internal/race.Disable", "internal/race.Enable", "internal/synctest.IsInBubble", "internal/synctest.Associate[sync.WaitGroup]", "sync.fatal", "sync/atomic.OrUint64", "sync/atomic.AddUint64", "internal/race.Read", "sync/atomic.LoadUint64", "sync/atomic.StoreUint64", "internal/synctest.Disassociate[sync.WaitGroup]", "sync.runtime_Semrelease", "(*sync.WaitGroup).Done", "(*sync.WaitGroup).Wait", "internal/race.Acquire", "internal/synctest.IsAssociated[sync.WaitGroup]", "sync/atomic.CompareAndSwapUint64", "internal/race.Write", "sync.runtime_SemacquireWaitGroup"], unfollowed := true, recurses := true, leaving := true, apart := false }
def FnDivergeOrderSaid : Prop := fnDivergeOrderRow.holds Try.pinned (OpenSpec.ofChange fnDivergeOrderSpec)

/-- ITS FALSE NEIGHBOUR: 'it returns false'. Refute it at one input. -/
def fnDivergeOrderWrong : ChangeSpec := { name := "fnDivergeOrder", fn := fun _ => fun
  | [d] => { results := [.lit (.bool false)], args := [d] }
  | _ => none }
def FnDivergeOrderWrongFalsely : Prop := fnDivergeOrderRow.holds Try.pinned (OpenSpec.ofChange fnDivergeOrderWrong)

/-- 'laws.FnDiverge': WHATEVER THE INPUT: true; the input reads as it did. -/
def fnDivergeSpec : ChangeSpec := { name := "fnDiverge", fn := fun _ => fun
  | [d] => { results := [.lit (.bool true)], args := [d] }
  | _ => none }
def fnDivergeRow : OpenClaim := { program := "ytlegilbiapbfkaa", sum := "ec58334a4309101e07435ef8609e9c8901677499fd45260977d0f50732861c40", func := "loop.example/replayverifier/laws.FnDiverge", spec := "fnDiverge", inPlace := ["(*sync.WaitGroup).Add", "internal/race.ReleaseMerge", "internal/race.Disable", "internal/race.Enable", "internal/synctest.IsInBubble", "internal/synctest.Associate[sync.WaitGroup]", "sync.fatal", "sync/atomic.OrUint64", "sync/atomic.AddUint64", "internal/race.Read", "sync/atomic.LoadUint64", "sync/atomic.StoreUint64", "internal/synctest.Disassociate[sync.WaitGroup]", "sync.runtime_Semrelease", "(*sync.WaitGroup).Done", "(*sync.WaitGroup).Wait", "internal/race.Acquire", "internal/synctest.IsAssociated[sync.WaitGroup]", "sync/atomic.CompareAndSwapUint64", "internal/race.Write", "sync.runtime_SemacquireWaitGroup"], unfollowed := true, recurses := true, leaving := true, apart := false }
def FnDivergeSaid : Prop := fnDivergeRow.holds Try.pinned (OpenSpec.ofChange fnDivergeSpec)

/-- ITS FALSE NEIGHBOUR: 'it returns false'. Refute it at one input. -/
def fnDivergeWrong : ChangeSpec := { name := "fnDiverge", fn := fun _ => fun
  | [d] => { results := [.lit (.bool false)], args := [d] }
  | _ => none }
def FnDivergeWrongFalsely : Prop := fnDivergeRow.holds Try.pinned (OpenSpec.ofChange fnDivergeWrong)

/-- 'laws.FnDivergeCount': WHATEVER THE INPUT: true; the input reads as it did. -/
def fnDivergeCountSpec : ChangeSpec := { name := "fnDivergeCount", fn := fun _ => fun
  | [d] => { results := [.lit (.bool true)], args := [d] }
  | _ => none }
def fnDivergeCountRow : OpenClaim := { program := "ytlegilbiapbfkaa", sum := "ec58334a4309101e07435ef8609e9c8901677499fd45260977d0f50732861c40", func := "loop.example/replayverifier/laws.FnDivergeCount", spec := "fnDivergeCount", inPlace := ["(*sync.WaitGroup).Add", "internal/race.ReleaseMerge", "internal/race.Disable", "internal/race.Enable", "internal/synctest.IsInBubble", "internal/synctest.Associate[sync.WaitGroup]", "sync.fatal", "sync/atomic.OrUint64", "sync/atomic.AddUint64", "internal/race.Read", "sync/atomic.LoadUint64", "sync/atomic.StoreUint64", "internal/synctest.Disassociate[sync.WaitGroup]", "sync.runtime_Semrelease", "(*sync.WaitGroup).Done", "(*sync.WaitGroup).Wait", "internal/race.Acquire", "internal/synctest.IsAssociated[sync.WaitGroup]", "sync/atomic.CompareAndSwapUint64", "internal/race.Write", "sync.runtime_SemacquireWaitGroup"], unfollowed := true, recurses := true, leaving := true, apart := false }
def FnDivergeCountSaid : Prop := fnDivergeCountRow.holds Try.pinned (OpenSpec.ofChange fnDivergeCountSpec)

/-- ITS FALSE NEIGHBOUR: 'it returns false'. Refute it at one input. -/
def fnDivergeCountWrong : ChangeSpec := { name := "fnDivergeCount", fn := fun _ => fun
  | [d] => { results := [.lit (.bool false)], args := [d] }
  | _ => none }
def FnDivergeCountWrongFalsely : Prop := fnDivergeCountRow.holds Try.pinned (OpenSpec.ofChange fnDivergeCountWrong)

/- THE SECOND FORM. 'bulk': how many values and letters a reading holds, each counted each time it is reached (what is shared counts as often as it is met; a slice's spare places count too). A statement '..UptoSaid' is the law's where the arguments, and the package variables that the reading takes, are together of bulk at most 1048576: NARROWER than '..Said'. Prove '..Said' where nothing that the law and all that it calls make is longer than what came in: it says more and counts as full. Else prove '..UptoSaid'. A law counts once. -/
mutual
def uptoBulk {H : Type} : DataW H → Nat
  | .lit (.string bytes) => bytes.length + 1
  | .lit _ => 1
  | .nil => 1
  | .ptr d => uptoBulk d + 1
  | .slice elems spare => uptoBulkAll elems + uptoBulkAll spare + 1
  | .agg parts => uptoBulkAll parts + 1
  | .iface _ d => uptoBulk d + 1
  | .map entries => uptoBulkEntries entries + 1
  | .held _ => 1
def uptoBulkAll {H : Type} : List (DataW H) → Nat
  | [] => 0
  | d :: r => uptoBulk d + uptoBulkAll r
def uptoBulkEntries {H : Type} : List (Lit × DataW H) → Nat
  | [] => 0
  | x :: r => uptoBulkEntry x + uptoBulkEntries r
def uptoBulkEntry {H : Type} : Lit × DataW H → Nat
  | (.string bytes, d) => bytes.length + uptoBulk d + 1
  | (_, d) => uptoBulk d + 1
 end
def uptoSmall : (H : Type) → List (DataW H) → Bool := fun _ ds => decide (uptoBulkAll ds ≤ 1048576)
def OpenSpec.upto (s : _root_.Go.ChangeSpec) : _root_.Go.OpenSpec := { _root_.Go.OpenSpec.ofChange s with cond := some uptoSmall }

/-- 'laws.FnExactDivergeFirst', WHERE WHAT IT READS IS OF BULK AT MOST 1048576: true; the input reads as it did. -/
def fnExactDivergeFirstUptoRow : OpenClaim := { program := "ytlegilbiapbfkaa", sum := "ec58334a4309101e07435ef8609e9c8901677499fd45260977d0f50732861c40", func := "loop.example/replayverifier/laws.FnExactDivergeFirst", spec := "fnExactDivergeFirst", inPlace := ["(*sync.WaitGroup).Add", "internal/race.ReleaseMerge", "internal/race.Disable", "internal/race.Enable", "internal/synctest.IsInBubble", "internal/synctest.Associate[sync.WaitGroup]", "sync.fatal", "sync/atomic.OrUint64", "sync/atomic.AddUint64", "internal/race.Read", "sync/atomic.LoadUint64", "sync/atomic.StoreUint64", "internal/synctest.Disassociate[sync.WaitGroup]", "sync.runtime_Semrelease", "(*sync.WaitGroup).Done", "(*sync.WaitGroup).Wait", "internal/race.Acquire", "internal/synctest.IsAssociated[sync.WaitGroup]", "sync/atomic.CompareAndSwapUint64", "internal/race.Write", "sync.runtime_SemacquireWaitGroup"], unfollowed := true, recurses := true, leaving := true, apart := false, narrowed := true }
def FnExactDivergeFirstUptoSaid : Prop := fnExactDivergeFirstUptoRow.holds Try.pinned (OpenSpec.upto fnExactDivergeFirstSpec)

/-- 'laws.FnExactDivergeCount', WHERE WHAT IT READS IS OF BULK AT MOST 1048576: true; the input reads as it did. -/
def fnExactDivergeCountUptoRow : OpenClaim := { program := "ytlegilbiapbfkaa", sum := "ec58334a4309101e07435ef8609e9c8901677499fd45260977d0f50732861c40", func := "loop.example/replayverifier/laws.FnExactDivergeCount", spec := "fnExactDivergeCount", inPlace := ["(*sync.WaitGroup).Add", "internal/race.ReleaseMerge", "internal/race.Disable", "internal/race.Enable", "internal/synctest.IsInBubble", "internal/synctest.Associate[sync.WaitGroup]", "sync.fatal", "sync/atomic.OrUint64", "sync/atomic.AddUint64", "internal/race.Read", "sync/atomic.LoadUint64", "sync/atomic.StoreUint64", "internal/synctest.Disassociate[sync.WaitGroup]", "sync.runtime_Semrelease", "(*sync.WaitGroup).Done", "(*sync.WaitGroup).Wait", "internal/race.Acquire", "internal/synctest.IsAssociated[sync.WaitGroup]", "sync/atomic.CompareAndSwapUint64", "internal/race.Write", "sync.runtime_SemacquireWaitGroup"], unfollowed := true, recurses := true, leaving := true, apart := false, narrowed := true }
def FnExactDivergeCountUptoSaid : Prop := fnExactDivergeCountUptoRow.holds Try.pinned (OpenSpec.upto fnExactDivergeCountSpec)

/-- 'laws.FnDivergeOne', WHERE WHAT IT READS IS OF BULK AT MOST 1048576: true; the input reads as it did. -/
def fnDivergeOneUptoRow : OpenClaim := { program := "ytlegilbiapbfkaa", sum := "ec58334a4309101e07435ef8609e9c8901677499fd45260977d0f50732861c40", func := "loop.example/replayverifier/laws.FnDivergeOne", spec := "fnDivergeOne", inPlace := ["(*sync.WaitGroup).Add", "internal/race.ReleaseMerge", "internal/race.Disable", "internal/race.Enable", "internal/synctest.IsInBubble", "internal/synctest.Associate[sync.WaitGroup]", "sync.fatal", "sync/atomic.OrUint64", "sync/atomic.AddUint64", "internal/race.Read", "sync/atomic.LoadUint64", "sync/atomic.StoreUint64", "internal/synctest.Disassociate[sync.WaitGroup]", "sync.runtime_Semrelease", "(*sync.WaitGroup).Done", "(*sync.WaitGroup).Wait", "internal/race.Acquire", "internal/synctest.IsAssociated[sync.WaitGroup]", "sync/atomic.CompareAndSwapUint64", "internal/race.Write", "sync.runtime_SemacquireWaitGroup"], unfollowed := true, recurses := true, leaving := true, apart := false, narrowed := true }
def FnDivergeOneUptoSaid : Prop := fnDivergeOneUptoRow.holds Try.pinned (OpenSpec.upto fnDivergeOneSpec)

/-- 'laws.FnDivergeOrder', WHERE WHAT IT READS IS OF BULK AT MOST 1048576: true; the input reads as it did. -/
def fnDivergeOrderUptoRow : OpenClaim := { program := "ytlegilbiapbfkaa", sum := "ec58334a4309101e07435ef8609e9c8901677499fd45260977d0f50732861c40", func := "loop.example/replayverifier/laws.FnDivergeOrder", spec := "fnDivergeOrder", inPlace := ["(*sync.WaitGroup).Add", "internal/race.ReleaseMerge", "internal/race.Disable", "internal/race.Enable", "internal/synctest.IsInBubble", "internal/synctest.Associate[sync.WaitGroup]", "sync.fatal", "sync/atomic.OrUint64", "sync/atomic.AddUint64", "internal/race.Read", "sync/atomic.LoadUint64", "sync/atomic.StoreUint64", "internal/synctest.Disassociate[sync.WaitGroup]", "sync.runtime_Semrelease", "(*sync.WaitGroup).Done", "(*sync.WaitGroup).Wait", "internal/race.Acquire", "internal/synctest.IsAssociated[sync.WaitGroup]", "sync/atomic.CompareAndSwapUint64", "internal/race.Write", "sync.runtime_SemacquireWaitGroup"], unfollowed := true, recurses := true, leaving := true, apart := false, narrowed := true }
def FnDivergeOrderUptoSaid : Prop := fnDivergeOrderUptoRow.holds Try.pinned (OpenSpec.upto fnDivergeOrderSpec)

/-- 'laws.FnDiverge', WHERE WHAT IT READS IS OF BULK AT MOST 1048576: true; the input reads as it did. -/
def fnDivergeUptoRow : OpenClaim := { program := "ytlegilbiapbfkaa", sum := "ec58334a4309101e07435ef8609e9c8901677499fd45260977d0f50732861c40", func := "loop.example/replayverifier/laws.FnDiverge", spec := "fnDiverge", inPlace := ["(*sync.WaitGroup).Add", "internal/race.ReleaseMerge", "internal/race.Disable", "internal/race.Enable", "internal/synctest.IsInBubble", "internal/synctest.Associate[sync.WaitGroup]", "sync.fatal", "sync/atomic.OrUint64", "sync/atomic.AddUint64", "internal/race.Read", "sync/atomic.LoadUint64", "sync/atomic.StoreUint64", "internal/synctest.Disassociate[sync.WaitGroup]", "sync.runtime_Semrelease", "(*sync.WaitGroup).Done", "(*sync.WaitGroup).Wait", "internal/race.Acquire", "internal/synctest.IsAssociated[sync.WaitGroup]", "sync/atomic.CompareAndSwapUint64", "internal/race.Write", "sync.runtime_SemacquireWaitGroup"], unfollowed := true, recurses := true, leaving := true, apart := false, narrowed := true }
def FnDivergeUptoSaid : Prop := fnDivergeUptoRow.holds Try.pinned (OpenSpec.upto fnDivergeSpec)

/-- 'laws.FnDivergeCount', WHERE WHAT IT READS IS OF BULK AT MOST 1048576: true; the input reads as it did. -/
def fnDivergeCountUptoRow : OpenClaim := { program := "ytlegilbiapbfkaa", sum := "ec58334a4309101e07435ef8609e9c8901677499fd45260977d0f50732861c40", func := "loop.example/replayverifier/laws.FnDivergeCount", spec := "fnDivergeCount", inPlace := ["(*sync.WaitGroup).Add", "internal/race.ReleaseMerge", "internal/race.Disable", "internal/race.Enable", "internal/synctest.IsInBubble", "internal/synctest.Associate[sync.WaitGroup]", "sync.fatal", "sync/atomic.OrUint64", "sync/atomic.AddUint64", "internal/race.Read", "sync/atomic.LoadUint64", "sync/atomic.StoreUint64", "internal/synctest.Disassociate[sync.WaitGroup]", "sync.runtime_Semrelease", "(*sync.WaitGroup).Done", "(*sync.WaitGroup).Wait", "internal/race.Acquire", "internal/synctest.IsAssociated[sync.WaitGroup]", "sync/atomic.CompareAndSwapUint64", "internal/race.Write", "sync.runtime_SemacquireWaitGroup"], unfollowed := true, recurses := true, leaving := true, apart := false, narrowed := true }
def FnDivergeCountUptoSaid : Prop := fnDivergeCountUptoRow.holds Try.pinned (OpenSpec.upto fnDivergeCountSpec)

end Rows
end Go.Proofs.Ytlegilbiapbfkaa
