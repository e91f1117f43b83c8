/-
  DERIVED. GIVEN WITH THE SEED: THE CARDS: each row of YtdpoicfciogfnaaDoorRows.lean that lists a variable, with what it lists TIED to the program's text (the seventh form; the later family's looks); each row that meets fmt, with fmt's text TOLD by the authors' own Lean function (tested against real Go, not proved from fmt's source: count such statements apart). THE CARD IS WHAT COUNTS. Prove the row's statement (the work); the ties are given (YtdpoicfciogfnaaDoorTie.lean); close each card by the builder's one call (the guide's Derived/Test/ToyasCard.lean, 'card_holds'). Laid BY PROGRAM, IN A SANDBOX (cutbox-door.mjs). By AI agents, Wed Nov 11 2026. No macro, syntax, notation, axiom, sorry.
-/
import Derived.Test.YtdpoicfciogfnaaDoorRows
import GoSem.ClaimSeven
namespace Go.Proofs.YtdpoicfciogfnaaDoor
namespace Rows

/-- THE TIED CARD OF 'laws.FnExactReplayEncode'. -/
def fnExactReplayEncodeCard : Claim7 := { stood := { row := fnExactReplayEncodeRow, standIns := [], harness := (true, "b881469125e2f7625e039a9f27b05287f13e73a0c966aeb0d1492617220baaff"), looks := true }, kinds := [], alts := [], laidByText := true, laidKinds := [.data, .data, .data], laidTests := true, laidLooks := .later }
def FnExactReplayEncodeCardSaid : Prop := Claim7.holds Tryd.pinned (.plain (OpenSpec.ofChange fnExactReplayEncodeSpec)) fnExactReplayEncodeCard

/-- THE TIED CARD OF 'laws.FnEncodeLines'. -/
def fnEncodeLinesCard : Claim7 := { stood := { row := fnEncodeLinesRow, standIns := [], harness := (true, "b881469125e2f7625e039a9f27b05287f13e73a0c966aeb0d1492617220baaff"), looks := true }, kinds := [], alts := [], laidByText := true, laidKinds := [.data, .data, .data], laidTests := true, laidLooks := .later }
def FnEncodeLinesCardSaid : Prop := Claim7.holds Tryd.pinned (.plain (OpenSpec.ofChange fnEncodeLinesSpec)) fnEncodeLinesCard

/-- THE TIED CARD OF 'laws.FnExactReplayDecode'. -/
def fnExactReplayDecodeCard : Claim7 := { stood := { row := fnExactReplayDecodeRow, standIns := [], harness := (true, "b881469125e2f7625e039a9f27b05287f13e73a0c966aeb0d1492617220baaff"), looks := true }, kinds := [], alts := [], laidByText := true, laidKinds := [.data, .data, .data, .data, .sentinel, .sentinel, .pinned], laidTests := true, laidLooks := .later }
def FnExactReplayDecodeCardSaid : Prop := Claim7.holds Tryd.pinned (.plain (OpenSpec.ofChange fnExactReplayDecodeSpec)) fnExactReplayDecodeCard

/-- THE SECOND FORM's CARD OF 'laws.FnExactReplayEncode'. -/
def fnExactReplayEncodeUptoCard : Claim7 := { stood := { row := fnExactReplayEncodeUptoRow, standIns := [], harness := (true, "b881469125e2f7625e039a9f27b05287f13e73a0c966aeb0d1492617220baaff"), looks := true }, kinds := [], alts := [], laidByText := true, laidKinds := [.data, .data, .data], laidTests := true, laidLooks := .later }
def FnExactReplayEncodeUptoCardSaid : Prop := Claim7.holds Tryd.pinned (.plain (OpenSpec.upto fnExactReplayEncodeSpec)) fnExactReplayEncodeUptoCard

/-- THE SECOND FORM's CARD OF 'laws.FnEncodeLines'. -/
def fnEncodeLinesUptoCard : Claim7 := { stood := { row := fnEncodeLinesUptoRow, standIns := [], harness := (true, "b881469125e2f7625e039a9f27b05287f13e73a0c966aeb0d1492617220baaff"), looks := true }, kinds := [], alts := [], laidByText := true, laidKinds := [.data, .data, .data], laidTests := true, laidLooks := .later }
def FnEncodeLinesUptoCardSaid : Prop := Claim7.holds Tryd.pinned (.plain (OpenSpec.upto fnEncodeLinesSpec)) fnEncodeLinesUptoCard

/-- THE SECOND FORM's CARD OF 'laws.FnExactReplayDecode'. -/
def fnExactReplayDecodeUptoCard : Claim7 := { stood := { row := fnExactReplayDecodeUptoRow, standIns := [], harness := (true, "b881469125e2f7625e039a9f27b05287f13e73a0c966aeb0d1492617220baaff"), looks := true }, kinds := [], alts := [], laidByText := true, laidKinds := [.data, .data, .data, .data, .sentinel, .sentinel, .pinned], laidTests := true, laidLooks := .later }
def FnExactReplayDecodeUptoCardSaid : Prop := Claim7.holds Tryd.pinned (.plain (OpenSpec.upto fnExactReplayDecodeSpec)) fnExactReplayDecodeUptoCard
end Rows
end Go.Proofs.YtdpoicfciogfnaaDoor
