/-
  DERIVED. GIVEN WITH THE SEED: THE CARDS: each row of YtpmjcjoeckajgaaGreatDoorRows.lean that lists a variable, with what it lists TIED to the program's text (the seventh form; the later family's looks); each row that meets fmt, with fmt's text TOLD by the authors' own Lean function (tested against real Go, not proved from fmt's source: count such statements apart). THE CARD IS WHAT COUNTS. Prove the row's statement (the work); the ties are given (YtpmjcjoeckajgaaGreatDoorTie.lean); close each card by the builder's one call (the guide's Derived/Test/ToyasCard.lean, 'card_holds'). Laid BY PROGRAM, IN A SANDBOX (cutbox-door.mjs). By AI agents, Wed Nov 11 2026. No macro, syntax, notation, axiom, sorry.
-/
import Derived.Test.YtpmjcjoeckajgaaGreatDoorRows
import GoSem.ClaimSeven
namespace Go.Proofs.YtpmjcjoeckajgaaGreatDoor
namespace Rows

/-- THE TIED CARD OF 'laws.FnFineInput'. -/
def fnFineInputCard : Claim7 := { stood := { row := fnFineInputRow, standIns := [], harness := (true, "d7f86e685e0bab42ff5f53a153817b6bd771887207dd4f8caf56780aa6b5e1fd"), looks := true }, kinds := [], alts := [], goes := true, laidByText := true, laidKinds := [.sentinel, .sentinel, .sentinel, .sentinel, .sentinel, .sentinel, .sentinel, .sentinel, .sentinel], laidTests := true, laidLooks := .later }
def FnFineInputCardSaid : Prop := Claim7.holds Tryz.pinned (.plain (OpenSpec.ofChange fnFineInputSpec)) fnFineInputCard

/-- THE TIED CARD OF 'laws.FnFineMore'. -/
def fnFineMoreCard : Claim7 := { stood := { row := fnFineMoreRow, standIns := [], harness := (true, "d7f86e685e0bab42ff5f53a153817b6bd771887207dd4f8caf56780aa6b5e1fd"), looks := true }, kinds := [], alts := [], goes := true, laidByText := true, laidKinds := [.sentinel, .sentinel, .sentinel, .sentinel, .sentinel, .sentinel, .sentinel, .sentinel, .sentinel], laidTests := true, laidLooks := .later }
def FnFineMoreCardSaid : Prop := Claim7.holds Tryz.pinned (.plain (OpenSpec.ofChange fnFineMoreSpec)) fnFineMoreCard

/-- THE TIED CARD OF 'laws.FnFineScore'. -/
def fnFineScoreCard : Claim7 := { stood := { row := fnFineScoreRow, standIns := [], harness := (true, "d7f86e685e0bab42ff5f53a153817b6bd771887207dd4f8caf56780aa6b5e1fd"), looks := true }, kinds := [], alts := [], goes := true, laidByText := true, laidKinds := [.sentinel, .sentinel, .sentinel, .sentinel, .sentinel, .sentinel, .sentinel, .sentinel, .sentinel], laidTests := true, laidLooks := .later }
def FnFineScoreCardSaid : Prop := Claim7.holds Tryz.pinned (.plain (OpenSpec.ofChange fnFineScoreSpec)) fnFineScoreCard

/-- THE TIED CARD OF 'laws.FnMakeFine'. -/
def fnMakeFineCard : Claim7 := { stood := { row := fnMakeFineRow, standIns := [], harness := (true, "d7f86e685e0bab42ff5f53a153817b6bd771887207dd4f8caf56780aa6b5e1fd"), looks := true }, kinds := [], alts := [], goes := true, laidByText := true, laidKinds := [.sentinel, .sentinel, .sentinel, .sentinel, .sentinel, .sentinel, .sentinel, .sentinel, .sentinel], laidTests := true, laidLooks := .later }
def FnMakeFineCardSaid : Prop := Claim7.holds Tryz.pinned (.plain (OpenSpec.ofChange fnMakeFineSpec)) fnMakeFineCard

/-- THE TIED CARD OF 'laws.FnMakeKey'. -/
def fnMakeKeyCard : Claim7 := { stood := { row := fnMakeKeyRow, standIns := [], harness := (true, "d7f86e685e0bab42ff5f53a153817b6bd771887207dd4f8caf56780aa6b5e1fd"), looks := true }, kinds := [], alts := [], goes := true, laidByText := true, laidKinds := [.sentinel, .sentinel, .sentinel, .sentinel, .sentinel, .sentinel, .sentinel, .sentinel, .sentinel], laidTests := true, laidLooks := .later }
def FnMakeKeyCardSaid : Prop := Claim7.holds Tryz.pinned (.plain (OpenSpec.ofChange fnMakeKeySpec)) fnMakeKeyCard

/-- THE TIED CARD OF 'laws.FnMakeOpen'. -/
def fnMakeOpenCard : Claim7 := { stood := { row := fnMakeOpenRow, standIns := [], harness := (true, "d7f86e685e0bab42ff5f53a153817b6bd771887207dd4f8caf56780aa6b5e1fd"), looks := true }, kinds := [], alts := [], goes := true, laidByText := true, laidKinds := [.sentinel, .sentinel, .sentinel, .sentinel, .sentinel, .sentinel, .sentinel, .sentinel, .sentinel], laidTests := true, laidLooks := .later }
def FnMakeOpenCardSaid : Prop := Claim7.holds Tryz.pinned (.plain (OpenSpec.ofChange fnMakeOpenSpec)) fnMakeOpenCard

/-- THE TIED CARD OF 'laws.FnExactVerifyReplay'. -/
def fnExactVerifyReplayCard : Claim7 := { stood := { row := fnExactVerifyReplayRow, standIns := [], harness := (true, "d7f86e685e0bab42ff5f53a153817b6bd771887207dd4f8caf56780aa6b5e1fd"), looks := true }, kinds := [], alts := [], goes := true, laidByText := true, laidKinds := [.sentinel, .sentinel, .sentinel, .sentinel, .sentinel, .sentinel, .sentinel, .sentinel, .sentinel], laidTests := true, laidLooks := .later }
def FnExactVerifyReplayCardSaid : Prop := Claim7.holds Tryz.pinned (.plain (OpenSpec.ofChange fnExactVerifyReplaySpec)) fnExactVerifyReplayCard

/-- THE SECOND FORM's CARD OF 'laws.FnFineInput'. -/
def fnFineInputUptoCard : Claim7 := { stood := { row := fnFineInputUptoRow, standIns := [], harness := (true, "d7f86e685e0bab42ff5f53a153817b6bd771887207dd4f8caf56780aa6b5e1fd"), looks := true }, kinds := [], alts := [], goes := true, laidByText := true, laidKinds := [.sentinel, .sentinel, .sentinel, .sentinel, .sentinel, .sentinel, .sentinel, .sentinel, .sentinel], laidTests := true, laidLooks := .later }
def FnFineInputUptoCardSaid : Prop := Claim7.holds Tryz.pinned (.plain (OpenSpec.upto fnFineInputSpec)) fnFineInputUptoCard

/-- THE SECOND FORM's CARD OF 'laws.FnFineMore'. -/
def fnFineMoreUptoCard : Claim7 := { stood := { row := fnFineMoreUptoRow, standIns := [], harness := (true, "d7f86e685e0bab42ff5f53a153817b6bd771887207dd4f8caf56780aa6b5e1fd"), looks := true }, kinds := [], alts := [], goes := true, laidByText := true, laidKinds := [.sentinel, .sentinel, .sentinel, .sentinel, .sentinel, .sentinel, .sentinel, .sentinel, .sentinel], laidTests := true, laidLooks := .later }
def FnFineMoreUptoCardSaid : Prop := Claim7.holds Tryz.pinned (.plain (OpenSpec.upto fnFineMoreSpec)) fnFineMoreUptoCard

/-- THE SECOND FORM's CARD OF 'laws.FnFineScore'. -/
def fnFineScoreUptoCard : Claim7 := { stood := { row := fnFineScoreUptoRow, standIns := [], harness := (true, "d7f86e685e0bab42ff5f53a153817b6bd771887207dd4f8caf56780aa6b5e1fd"), looks := true }, kinds := [], alts := [], goes := true, laidByText := true, laidKinds := [.sentinel, .sentinel, .sentinel, .sentinel, .sentinel, .sentinel, .sentinel, .sentinel, .sentinel], laidTests := true, laidLooks := .later }
def FnFineScoreUptoCardSaid : Prop := Claim7.holds Tryz.pinned (.plain (OpenSpec.upto fnFineScoreSpec)) fnFineScoreUptoCard

/-- THE SECOND FORM's CARD OF 'laws.FnMakeFine'. -/
def fnMakeFineUptoCard : Claim7 := { stood := { row := fnMakeFineUptoRow, standIns := [], harness := (true, "d7f86e685e0bab42ff5f53a153817b6bd771887207dd4f8caf56780aa6b5e1fd"), looks := true }, kinds := [], alts := [], goes := true, laidByText := true, laidKinds := [.sentinel, .sentinel, .sentinel, .sentinel, .sentinel, .sentinel, .sentinel, .sentinel, .sentinel], laidTests := true, laidLooks := .later }
def FnMakeFineUptoCardSaid : Prop := Claim7.holds Tryz.pinned (.plain (OpenSpec.upto fnMakeFineSpec)) fnMakeFineUptoCard

/-- THE SECOND FORM's CARD OF 'laws.FnMakeKey'. -/
def fnMakeKeyUptoCard : Claim7 := { stood := { row := fnMakeKeyUptoRow, standIns := [], harness := (true, "d7f86e685e0bab42ff5f53a153817b6bd771887207dd4f8caf56780aa6b5e1fd"), looks := true }, kinds := [], alts := [], goes := true, laidByText := true, laidKinds := [.sentinel, .sentinel, .sentinel, .sentinel, .sentinel, .sentinel, .sentinel, .sentinel, .sentinel], laidTests := true, laidLooks := .later }
def FnMakeKeyUptoCardSaid : Prop := Claim7.holds Tryz.pinned (.plain (OpenSpec.upto fnMakeKeySpec)) fnMakeKeyUptoCard

/-- THE SECOND FORM's CARD OF 'laws.FnMakeOpen'. -/
def fnMakeOpenUptoCard : Claim7 := { stood := { row := fnMakeOpenUptoRow, standIns := [], harness := (true, "d7f86e685e0bab42ff5f53a153817b6bd771887207dd4f8caf56780aa6b5e1fd"), looks := true }, kinds := [], alts := [], goes := true, laidByText := true, laidKinds := [.sentinel, .sentinel, .sentinel, .sentinel, .sentinel, .sentinel, .sentinel, .sentinel, .sentinel], laidTests := true, laidLooks := .later }
def FnMakeOpenUptoCardSaid : Prop := Claim7.holds Tryz.pinned (.plain (OpenSpec.upto fnMakeOpenSpec)) fnMakeOpenUptoCard

/-- THE SECOND FORM's CARD OF 'laws.FnExactVerifyReplay'. -/
def fnExactVerifyReplayUptoCard : Claim7 := { stood := { row := fnExactVerifyReplayUptoRow, standIns := [], harness := (true, "d7f86e685e0bab42ff5f53a153817b6bd771887207dd4f8caf56780aa6b5e1fd"), looks := true }, kinds := [], alts := [], goes := true, laidByText := true, laidKinds := [.sentinel, .sentinel, .sentinel, .sentinel, .sentinel, .sentinel, .sentinel, .sentinel, .sentinel], laidTests := true, laidLooks := .later }
def FnExactVerifyReplayUptoCardSaid : Prop := Claim7.holds Tryz.pinned (.plain (OpenSpec.upto fnExactVerifyReplaySpec)) fnExactVerifyReplayUptoCard
end Rows
end Go.Proofs.YtpmjcjoeckajgaaGreatDoor
