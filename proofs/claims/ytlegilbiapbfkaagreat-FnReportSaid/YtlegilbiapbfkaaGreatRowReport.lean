/-
  FOR EVERY CODE the law FnReport returns true: a report says where the drawn hashes diverge. No condition.
-/
import Derived.Test.YtlegilbiapbfkaaGreatLawReport
import Derived.Test.YtlegilbiapbfkaaGreatZHead
import Derived.Test.YtlegilbiapbfkaaGreatFrameC
import Derived.Test.YtlegilbiapbfkaaGreatHead
namespace Go.Proofs.YtlegilbiapbfkaaGreat
open Go.ChangeShapes Go.WideShapes Go.ChangeAt Go.RowKit
set_option maxRecDepth 100000 in
theorem walkReport : LawWalkC 3 Tryz.f3 := by
  intro H enc W base args ds ps hval hA hlt _ tp
  rw [Tryz.params3] at hA hval
  obtain ⟨v0, vs0, d0, ds0, p0, q0, hargs, rfl, rfl, h0, r0⟩ := trodAll_cons hA
  obtain ⟨rfl, rfl, rfl⟩ := trodAll_nil r0
  obtain rfl : args = #[v0] := by cases args; simp_all
  obtain ⟨A0, n0, c0, rfl⟩ := okWide_slice Tryz.underlying22 (hval 0 22 v0 rfl rfl)
  obtain ⟨l0, s0, g0, m0⟩ := open_bytes h0
  exact below_fake (lawReport A0 n0 c0 l0 _ (sl_fake s0) (fun x hx => u8_bd (g0 x hx)) (Nat.le_trans m0.1 m0.2) m0.1 m0.2)
set_option maxRecDepth 100000 in
theorem liftedReport (os : Os) (started : os.Started) (H : Type) (enc : TypeId × Value → H) :
    ReturnsInLeavingWide {} Tryz.checked os 3 .any (Rows.fnReportSpec.pre6 enc Tryz.prog Tryz.f3 Rows.fnReportRow.domain false) (Rows.fnReportSpec.post enc Tryz.prog Tryz.f3 false true false false) :=
  law_leaving (s := Rows.fnReportSpec) (tb := 4) os started H enc (by kernel_rfl) Tryz.func3 Sq.func3 (by decide) (by kernel_rfl) Tryz.results3 (by kernel_rfl) (by kernel_rfl) Tryz.underlying4 rfl (fun ds hl => by
      match ds, hl with
      | [d0], _ => rfl)
    (ChangeSpec.witness6 (enc := enc) (C := Tryz.checked) false ⟨#[], #[.slice none 0 0], []⟩ 8 (by kernel_rfl) (by kernel_rfl) (by kernel_rfl) (by kernel_rfl)) walkReport
theorem closedReport : joinedFacts Tryz.pinned.checked.prog 3 Tryz.f3 Rows.fnReportSpec Rows.fnReportRow = true := by
  show joinedFacts Tryz.prog 3 Tryz.f3 Rows.fnReportSpec Rows.fnReportRow = true
  obtain ⟨P, hP⟩ : ∃ P, Tryz.prog = P := ⟨_, rfl⟩
  rw [hP]
  have h1 : P.mayEnter = true := hP ▸ mayEnter_
  have h2 : P.liftsFinal = false := hP ▸ lifts_
  have h3 : P.make = some Make.cut := hP ▸ make_
  unfold joinedFacts
  rw [h1, h2, h3, ← hP]
  show _ = true
  kernel_rfl
theorem Report_holds : Rows.FnReportSaid :=
  OpenClaim.holds_of_wide_leaving 3 Tryz.f3 rfl rfl rfl rfl rfl rfl rfl ⟨rfl, rfl, rfl, rfl, rfl⟩ rfl rfl rfl rfl rfl (by kernel_rfl) Tryz.func3 closedReport
    (of_decide_eq_true (by kernel_rfl)) (by unfold Func.isWrapper; first | (rw [if_pos (by decide +kernel)]; kernel_rfl) | (rw [if_neg (by decide +kernel)]; exact ⟨rfl, rfl⟩))
    (fun os started H enc _ => liftedReport os started H enc)
end Go.Proofs.YtlegilbiapbfkaaGreat
