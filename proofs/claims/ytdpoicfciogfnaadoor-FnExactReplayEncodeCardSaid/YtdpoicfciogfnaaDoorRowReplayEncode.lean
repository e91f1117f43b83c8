/-
  FOR EVERY REPLAY, the table of powers lying as it is laid, the law FnExactReplayEncode returns true: the program's ReplayEncode and the reference's return the same text; the argument stands. No other condition.
-/
import Derived.Test.YtdpoicfciogfnaaDoorLawReplayEncode
import Derived.Test.YtdpoicfciogfnaaDoorZHead
import Derived.Test.YtdpoicfciogfnaaDoorFrameL
import Derived.Test.YtdpoicfciogfnaaDoorTie
import Derived.Test.YtdpoicfciogfnaaDoorCards
import Derived.LaidMore
import Derived.LaidHandle
import Derived.SevenTiedAt
import Derived.Test.YtdpoicfciogfnaaDoorHead
namespace Go.Proofs.YtdpoicfciogfnaaDoor
open Go.ChangeShapes Go.WideShapes Go.ChangeAt Go.RowKit
set_option maxRecDepth 100000 in
theorem walkReplayEncode : LawWalkL 3 Tryd.f3 := by
  intro H enc W base args ds ps hval hA hlt _ hT
  rw [Tryd.params3] at hA hval
  obtain ⟨v0, vs0, d0, ds0, p0, q0, hargs, rfl, rfl, h0, r0⟩ := trodAll_cons hA
  obtain ⟨rfl, rfl, rfl⟩ := trodAll_nil r0
  obtain rfl : args = #[v0] := by cases args; simp_all
  obtain ⟨lv0, pl0, sc0, tag0, ins0, hs0, A0, B0, c0, e0, rfl, s0, u0, m0, k0, g0⟩ := open_replay (hval 0 25 v0 rfl rfl) h0
  exact lawReplayEncode A0 B0 c0 e0 ⟨lv0, pl0, sc0, ins0, hs0, tag0⟩ W s0 u0 m0 k0 hT
theorem doorReplayEncode (os : Os) (args : Array Value) : laidMet Tryd.prog Rows.fnExactReplayEncodeRow.laid ((World.doorLaid Tryd.prog 400 os).forCall (fun _ _ => 0) ⟨#[], args, []⟩).memory :=
  laidMet_of_run' 8 (by kernel_rfl) (by kernel_rfl)
set_option maxRecDepth 100000 in
theorem liftedReplayEncode (os : Os) (started : os.Started) (H : Type) (enc : TypeId × Value → H) :
    ReturnsInHanded {} Tryd.checked os 3 .any (fun w args => (Rows.fnExactReplayEncodeSpec.pre enc Tryd.prog Tryd.f3 [] false w args ∧ laidMet Tryd.prog Rows.fnExactReplayEncodeRow.laid w) ∧ sizedMet enc Tryd.prog Tryd.f3 (OpenSpec.ofChange Rows.fnExactReplayEncodeSpec) false w args) (Rows.fnExactReplayEncodeSpec.post enc Tryd.prog Tryd.f3 false true false false) :=
  law_laid (s := Rows.fnExactReplayEncodeSpec) (tb := 4) os started H enc (by kernel_rfl) (by kernel_rfl) Tryd.func3 (by kernel_rfl) (by kernel_rfl) Tryd.underlying4 rfl (fun ds hl => by
      match ds, hl with
      | [d0], _ => rfl)
    (ChangeSpec.witness_shaped (enc := enc) (C := Tryd.checked) (os := os) (X := fun w _ => laidMet Tryd.prog Rows.fnExactReplayEncodeRow.laid w) false (World.doorLaid Tryd.prog 400 os) #[.agg #[.int .i64 0, .int .i64 0, .int .i64 0, .slice none 0 0, .slice none 0 0, .int .i64 0]] 8 rfl (World.shaped_of_RefB (by kernel_rfl) (by kernel_rfl)) (by kernel_rfl) (by kernel_rfl) (by kernel_rfl) (doorReplayEncode os _)) walkReplayEncode
theorem closedReplayEncode : joinedFacts Tryd.pinned.checked.prog 3 Tryd.f3 Rows.fnExactReplayEncodeSpec Rows.fnExactReplayEncodeRow = true := by
  show joinedFacts Tryd.prog 3 Tryd.f3 Rows.fnExactReplayEncodeSpec Rows.fnExactReplayEncodeRow = true
  obtain ⟨P, hP⟩ : ∃ P, Tryd.prog = P := ⟨_, rfl⟩
  rw [hP]
  have h1 : P.mayEnter = true := hP ▸ mayEnter_
  have h2 : P.liftsFinal = false := hP ▸ lifts_
  have h3 : P.make = some Make.cut := hP ▸ make_
  unfold joinedFacts
  rw [h1, h2, h3, ← hP]
  show _ = true
  kernel_rfl
theorem ReplayEncode_row : Rows.FnExactReplayEncodeSaid :=
  OpenClaim.holds_of_wide 3 Tryd.f3 rfl rfl rfl rfl rfl rfl rfl ⟨rfl, rfl, rfl, rfl, rfl⟩ rfl rfl rfl rfl rfl (by kernel_rfl) Tryd.func3 closedReplayEncode
    (of_decide_eq_true (by kernel_rfl)) (by unfold Func.isWrapper; first | (rw [if_pos (by decide +kernel)]; kernel_rfl) | (rw [if_neg (by decide +kernel)]; exact ⟨rfl, rfl⟩))
    (fun os started H enc _ => liftedReplayEncode os started H enc)
set_option maxRecDepth 100000 in
theorem ReplayEncode_holds : Rows.FnExactReplayEncodeCardSaid :=
  Claim7.holds_tied_plain_at .later [] _ true _ true ReplayEncode_row (fun _ h => by cases h) (by kernel_rfl) (fun _ h => by cases h) fnExactReplayEncode_row_tie rfl ⟨rfl, rfl⟩ (by kernel_rfl) rfl
    (fun f fn hf hfn => by
      obtain rfl : f = 3 := Option.some.inj ((show Tryd.prog.funcNamed Rows.fnExactReplayEncodeRow.func = some 3 by kernel_rfl).symm.trans hf) |>.symm
      obtain rfl : fn = Tryd.f3 := (Option.some.inj (Tryd.func3.symm.trans hfn)).symm
      exact ⟨by kernel_rfl, fun j t ht => by
        rw [Tryd.params3] at ht
        have hm : t ∈ [25] := by simpa using Array.mem_of_getElem? ht
        have hall : ([25].all fun u => !Tryd.prog.wantsStandIn u) = true := by kernel_rfl
        exact (show Tryd.prog.wantsStandIn t = false by simpa using List.all_eq_true.1 hall t hm)⟩)
    (by kernel_rfl)
end Go.Proofs.YtdpoicfciogfnaaDoor
