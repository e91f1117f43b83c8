/-
  FOR EVERY CODE AND EVERY LIST the law FnDivergeOne returns true: one changed hash is one difference. No condition.
-/
import Derived.Test.YtlegilbiapbfkaaLawDivergeOne
import Derived.Test.YtlegilbiapbfkaaZHead
import Derived.Test.YtlegilbiapbfkaaFrameC
import Derived.Test.YtlegilbiapbfkaaHead
namespace Go.Proofs.Ytlegilbiapbfkaa
open Go.ChangeShapes Go.WideShapes Go.ChangeAt Go.RowKit
set_option maxRecDepth 100000 in
theorem walkDivergeOne : LawWalkC 5 Try.f5 := by
  intro H enc W base args ds ps hval hA hlt _ tp
  rw [Try.params5] at hA hval
  obtain ⟨v0, vs0, d0, ds0, p0, q0, hargs, rfl, rfl, h0, r0⟩ := trodAll_cons hA
  obtain ⟨v1, vs1, d1, ds1, p1, q1, rfl, rfl, rfl, h1, r1⟩ := trodAll_cons r0
  obtain ⟨rfl, rfl, rfl⟩ := trodAll_nil r1
  obtain rfl : args = #[v0, v1] := by cases args; simp_all
  obtain ⟨A0, n0, c0, rfl⟩ := okWide_slice Try.underlying26 (hval 0 26 v0 rfl rfl)
  obtain ⟨l0, s0, g0, m0⟩ := open_bytes h0
  obtain ⟨A1, n1, c1, rfl⟩ := okWide_slice Try.underlying26 (hval 1 26 v1 rfl rfl)
  obtain ⟨l1, s1, g1, m1⟩ := open_bytes h1
  exact below_fake (lawDivergeOne A0 A1 n0 n1 c0 c1 l0 _ (sl_fake s0) (fun x hx => u8_bd (g0 x hx)) (Nat.le_trans m0.1 m0.2) m0.1 m0.2)
set_option maxRecDepth 100000 in
theorem liftedDivergeOne (os : Os) (started : os.Started) (H : Type) (enc : TypeId × Value → H) :
    ReturnsInLeavingWide {} Try.checked os 5 .any (Rows.fnDivergeOneSpec.pre6 enc Try.prog Try.f5 Rows.fnDivergeOneRow.domain false) (Rows.fnDivergeOneSpec.post enc Try.prog Try.f5 false true false false) :=
  law_leaving (s := Rows.fnDivergeOneSpec) (tb := 4) os started H enc (by kernel_rfl) Try.func5 Sq.func5 (by decide) Try.results5 (by kernel_rfl) (by kernel_rfl) Try.underlying4 rfl (fun ds hl => by
      match ds, hl with
      | [d0, d1], _ => rfl)
    (ChangeSpec.witness6 (enc := enc) (C := Try.checked) false ⟨#[], #[.slice none 0 0, .slice none 0 0], []⟩ 8 (by kernel_rfl) (by kernel_rfl) (by kernel_rfl) (by kernel_rfl)) walkDivergeOne
theorem closedDivergeOne : joinedFacts Try.pinned.checked.prog 5 Try.f5 Rows.fnDivergeOneSpec Rows.fnDivergeOneRow = true := by
  show joinedFacts Try.prog 5 Try.f5 Rows.fnDivergeOneSpec Rows.fnDivergeOneRow = true
  obtain ⟨P, hP⟩ : ∃ P, Try.prog = P := ⟨_, rfl⟩
  rw [hP]
  have h1 : P.mayEnter = true := hP ▸ mayEnter_
  have h2 : P.liftsFinal = false := hP ▸ lifts_
  have h3 : P.make = some Make.cut := hP ▸ make_
  unfold joinedFacts
  rw [h1, h2, h3, ← hP]
  show _ = true
  kernel_rfl
theorem DivergeOne_holds : Rows.FnDivergeOneSaid :=
  OpenClaim.holds_of_wide_leaving 5 Try.f5 rfl rfl rfl rfl rfl rfl rfl ⟨rfl, rfl, rfl, rfl, rfl⟩ rfl rfl rfl rfl rfl (by kernel_rfl) Try.func5 closedDivergeOne
    (of_decide_eq_true (by kernel_rfl)) (by unfold Func.isWrapper; first | (rw [if_pos (by decide +kernel)]; kernel_rfl) | (rw [if_neg (by decide +kernel)]; exact ⟨rfl, rfl⟩))
    (fun os started H enc _ => liftedDivergeOne os started H enc)
end Go.Proofs.Ytlegilbiapbfkaa
