/-
  FOR EVERY CODE the law FnReportPart returns true: a missing hash is reported. No condition.
-/
import Derived.Test.YtlegilbiapbfkaaGreatLawReportPart
import Derived.Test.YtlegilbiapbfkaaGreatZHead
import Derived.Test.YtlegilbiapbfkaaGreatFrameC
import Derived.Test.YtlegilbiapbfkaaGreatHead
namespace Go.Proofs.YtlegilbiapbfkaaGreat
open Go.ChangeShapes Go.WideShapes Go.ChangeAt Go.RowKit
set_option maxRecDepth 100000 in
theorem walkReportPart : LawWalkC 6 Tryz.f6 := by
  intro H enc W base args ds ps hval hA hlt _ tp
  rw [Tryz.params6] at hA hval
  obtain ⟨v0, vs0, d0, ds0, p0, q0, hargs, rfl, rfl, h0, r0⟩ := trodAll_cons hA
  obtain ⟨rfl, rfl, rfl⟩ := trodAll_nil r0
  obtain rfl : args = #[v0] := by cases args; simp_all
  obtain ⟨A0, n0, c0, rfl⟩ := okWide_slice Tryz.underlying22 (hval 0 22 v0 rfl rfl)
  obtain ⟨l0, s0, g0, m0⟩ := open_bytes h0
  exact below_fake (lawReportPart A0 n0 c0 l0 _ (sl_fake s0) (fun x hx => u8_bd (g0 x hx)) (Nat.le_trans m0.1 m0.2) m0.1 m0.2)
set_option maxRecDepth 100000 in
theorem liftedReportPart (os : Os) (started : os.Started) (H : Type) (enc : TypeId × Value → H) :
    ReturnsInLeavingWide {} Tryz.checked os 6 .any (Rows.fnReportPartSpec.pre6 enc Tryz.prog Tryz.f6 Rows.fnReportPartRow.domain false) (Rows.fnReportPartSpec.post enc Tryz.prog Tryz.f6 false true false false) :=
  law_leaving (s := Rows.fnReportPartSpec) (tb := 4) os started H enc (by kernel_rfl) Tryz.func6 Sq.func6 (by decide) (by kernel_rfl) Tryz.results6 (by kernel_rfl) (by kernel_rfl) Tryz.underlying4 rfl (fun ds hl => by
      match ds, hl with
      | [d0], _ => rfl)
    (ChangeSpec.witness6 (enc := enc) (C := Tryz.checked) false ⟨#[], #[.slice none 0 0], []⟩ 8 (by kernel_rfl) (by kernel_rfl) (by kernel_rfl) (by kernel_rfl)) walkReportPart
theorem closedReportPart : joinedFacts Tryz.pinned.checked.prog 6 Tryz.f6 Rows.fnReportPartSpec Rows.fnReportPartRow = true := by
  show joinedFacts Tryz.prog 6 Tryz.f6 Rows.fnReportPartSpec Rows.fnReportPartRow = true
  obtain ⟨P, hP⟩ : ∃ P, Tryz.prog = P := ⟨_, rfl⟩
  rw [hP]
  have h1 : P.mayEnter = true := hP ▸ mayEnter_
  have h2 : P.liftsFinal = false := hP ▸ lifts_
  have h3 : P.make = some Make.cut := hP ▸ make_
  unfold joinedFacts
  rw [h1, h2, h3, ← hP]
  show _ = true
  kernel_rfl
theorem ReportPart_holds : Rows.FnReportPartSaid :=
  OpenClaim.holds_of_wide_leaving 6 Tryz.f6 rfl rfl rfl rfl rfl rfl rfl ⟨rfl, rfl, rfl, rfl, rfl⟩ rfl rfl rfl rfl rfl (by kernel_rfl) Tryz.func6 closedReportPart
    (of_decide_eq_true (by kernel_rfl)) (by unfold Func.isWrapper; first | (rw [if_pos (by decide +kernel)]; kernel_rfl) | (rw [if_neg (by decide +kernel)]; exact ⟨rfl, rfl⟩))
    (fun os started H enc _ => liftedReportPart os started H enc)
end Go.Proofs.YtlegilbiapbfkaaGreat
