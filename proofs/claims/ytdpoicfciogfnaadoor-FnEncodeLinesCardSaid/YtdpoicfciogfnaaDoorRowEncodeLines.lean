/-
  FOR EVERY LIST OF BYTES, the table of powers lying as it is laid, the law FnEncodeLines returns true: the text of the drawn replay is the reference's, and where it is not empty it has four lines, begins with 'replay ' and ends with a line's end; the argument stands. No other condition.
-/
import Derived.Test.YtdpoicfciogfnaaDoorLawEncodeLines
import Derived.Test.YtdpoicfciogfnaaDoorZHead
import Derived.Test.YtdpoicfciogfnaaDoorFrameL
import Derived.Test.YtdpoicfciogfnaaDoorTie
import Derived.Test.YtdpoicfciogfnaaDoorCards
import Derived.LaidMore
import Derived.LaidHandle
import Derived.SevenTiedAt
import Derived.Test.YtdpoicfciogfnaaDoorHead
namespace Go.Proofs.YtdpoicfciogfnaaDoor
open Go.ChangeShapes Go.WideShapes Go.ChangeAt Go.RowKit
set_option maxRecDepth 100000 in
theorem walkEncodeLines : LawWalkL 4 Tryd.f4 := by
  intro H enc W base args ds ps hval hA hlt _ hT
  rw [Tryd.params4] at hA hval
  obtain ⟨v0, vs0, d0, ds0, p0, q0, hargs, rfl, rfl, h0, r0⟩ := trodAll_cons hA
  obtain ⟨rfl, rfl, rfl⟩ := trodAll_nil r0
  obtain rfl : args = #[v0] := by cases args; simp_all
  obtain ⟨A0, n0, c0, rfl⟩ := okWide_slice Tryd.underlying34 (hval 0 34 v0 rfl rfl)
  obtain ⟨l0, s0, g0, m0⟩ := open_bytes h0
  exact lawEncodeLines A0 n0 c0 l0 W s0 (fun x hx => u8_bd (g0 x hx)) (Nat.le_trans m0.1 m0.2) m0.1 m0.2 hT
theorem doorEncodeLines (os : Os) (args : Array Value) : laidMet Tryd.prog Rows.fnEncodeLinesRow.laid ((World.doorLaid Tryd.prog 400 os).forCall (fun _ _ => 0) ⟨#[], args, []⟩).memory :=
  laidMet_of_run' 8 (by kernel_rfl) (by kernel_rfl)
set_option maxRecDepth 100000 in
theorem liftedEncodeLines (os : Os) (started : os.Started) (H : Type) (enc : TypeId × Value → H) :
    ReturnsInHanded {} Tryd.checked os 4 .any (fun w args => (Rows.fnEncodeLinesSpec.pre enc Tryd.prog Tryd.f4 [] false w args ∧ laidMet Tryd.prog Rows.fnEncodeLinesRow.laid w) ∧ sizedMet enc Tryd.prog Tryd.f4 (OpenSpec.ofChange Rows.fnEncodeLinesSpec) false w args) (Rows.fnEncodeLinesSpec.post enc Tryd.prog Tryd.f4 false true false false) :=
  law_laid (s := Rows.fnEncodeLinesSpec) (tb := 4) os started H enc (by kernel_rfl) (by kernel_rfl) Tryd.func4 (by kernel_rfl) (by kernel_rfl) Tryd.underlying4 rfl (fun ds hl => by
      match ds, hl with
      | [d0], _ => rfl)
    (ChangeSpec.witness_shaped (enc := enc) (C := Tryd.checked) (os := os) (X := fun w _ => laidMet Tryd.prog Rows.fnEncodeLinesRow.laid w) false (World.doorLaid Tryd.prog 400 os) #[.slice none 0 0] 8 rfl (World.shaped_of_RefB (by kernel_rfl) (by kernel_rfl)) (by kernel_rfl) (by kernel_rfl) (by kernel_rfl) (doorEncodeLines os _)) walkEncodeLines
theorem closedEncodeLines : joinedFacts Tryd.pinned.checked.prog 4 Tryd.f4 Rows.fnEncodeLinesSpec Rows.fnEncodeLinesRow = true := by
  show joinedFacts Tryd.prog 4 Tryd.f4 Rows.fnEncodeLinesSpec Rows.fnEncodeLinesRow = true
  obtain ⟨P, hP⟩ : ∃ P, Tryd.prog = P := ⟨_, rfl⟩
  rw [hP]
  have h1 : P.mayEnter = true := hP ▸ mayEnter_
  have h2 : P.liftsFinal = false := hP ▸ lifts_
  have h3 : P.make = some Make.cut := hP ▸ make_
  unfold joinedFacts
  rw [h1, h2, h3, ← hP]
  show _ = true
  kernel_rfl
theorem EncodeLines_row : Rows.FnEncodeLinesSaid :=
  OpenClaim.holds_of_wide 4 Tryd.f4 rfl rfl rfl rfl rfl rfl rfl ⟨rfl, rfl, rfl, rfl, rfl⟩ rfl rfl rfl rfl rfl (by kernel_rfl) Tryd.func4 closedEncodeLines
    (of_decide_eq_true (by kernel_rfl)) (by unfold Func.isWrapper; first | (rw [if_pos (by decide +kernel)]; kernel_rfl) | (rw [if_neg (by decide +kernel)]; exact ⟨rfl, rfl⟩))
    (fun os started H enc _ => liftedEncodeLines os started H enc)
set_option maxRecDepth 100000 in
theorem EncodeLines_holds : Rows.FnEncodeLinesCardSaid :=
  Claim7.holds_tied_plain_at .later [] _ true _ true EncodeLines_row (fun _ h => by cases h) (by kernel_rfl) (fun _ h => by cases h) fnEncodeLines_row_tie rfl ⟨rfl, rfl⟩ (by kernel_rfl) rfl
    (fun f fn hf hfn => by
      obtain rfl : f = 4 := Option.some.inj ((show Tryd.prog.funcNamed Rows.fnEncodeLinesRow.func = some 4 by kernel_rfl).symm.trans hf) |>.symm
      obtain rfl : fn = Tryd.f4 := (Option.some.inj (Tryd.func4.symm.trans hfn)).symm
      exact ⟨by kernel_rfl, fun j t ht => by
        rw [Tryd.params4] at ht
        have hm : t ∈ [34] := by simpa using Array.mem_of_getElem? ht
        have hall : ([34].all fun u => !Tryd.prog.wantsStandIn u) = true := by kernel_rfl
        exact (show Tryd.prog.wantsStandIn t = false by simpa using List.all_eq_true.1 hall t hm)⟩)
    (by kernel_rfl)
end Go.Proofs.YtdpoicfciogfnaaDoor
