/-
  FOR EVERY CODE the law FnStepBrake returns true. No condition.
-/
import Derived.Test.YtmfhfebakdkkdaaLawStepBrake
import Derived.Test.YtmfhfebakdkkdaaZHead
import Derived.Test.YtmfhfebakdkkdaaHead
namespace Go.Proofs.Ytmfhfebakdkkdaa
open Go.ChangeShapes Go.WideShapes Go.ChangeAt Go.RowKit
set_option maxRecDepth 100000 in
theorem walkStepBrake : LawWalk 5 Try.f5 := by
  intro H enc W base args ds ps hval hA hlt _
  rw [Try.params5] at hA hval
  obtain ⟨v0, vs0, d0, ds0, p0, q0, hargs, rfl, rfl, h0, r0⟩ := trodAll_cons hA
  obtain ⟨rfl, rfl, rfl⟩ := trodAll_nil r0
  obtain rfl : args = #[v0] := by cases args; simp_all
  obtain ⟨A0, n0, c0, rfl⟩ := okWide_slice Try.underlying22 (hval 0 22 v0 rfl rfl)
  obtain ⟨l0, s0, g0, m0⟩ := open_bytes h0
  exact lawStepBrake A0 n0 c0 l0 W s0 (fun x hx => u8_bd (g0 x hx)) (Nat.le_trans m0.1 m0.2) m0.1 m0.2
set_option maxRecDepth 100000 in
theorem liftedStepBrake (os : Os) (started : os.Started) (H : Type) (enc : TypeId × Value → H) :
    ReturnsInHanded {} Try.checked os 5 .any (Rows.fnStepBrakeSpec.pre6 enc Try.prog Try.f5 Rows.fnStepBrakeRow.domain false) (Rows.fnStepBrakeSpec.post enc Try.prog Try.f5 false true false false) :=
  law_lifted (s := Rows.fnStepBrakeSpec) (tb := 4) os started H enc (by kernel_rfl) Try.func5 (by kernel_rfl) (by kernel_rfl) Try.underlying4 rfl (fun ds hl => by
      match ds, hl with
      | [d0], _ => rfl)
    (ChangeSpec.witness6 (enc := enc) (C := Try.checked) false ⟨#[], #[.slice none 0 0], []⟩ 8 (by kernel_rfl) (by kernel_rfl) (by kernel_rfl) (by kernel_rfl)) walkStepBrake
theorem closedStepBrake : joinedFacts Try.pinned.checked.prog 5 Try.f5 Rows.fnStepBrakeSpec Rows.fnStepBrakeRow = true := by
  show joinedFacts Try.prog 5 Try.f5 Rows.fnStepBrakeSpec Rows.fnStepBrakeRow = true
  obtain ⟨P, hP⟩ : ∃ P, Try.prog = P := ⟨_, rfl⟩
  rw [hP]
  have h1 : P.mayEnter = true := hP ▸ mayEnter_
  have h2 : P.liftsFinal = false := hP ▸ lifts_
  have h3 : P.make = some Make.cut := hP ▸ make_
  unfold joinedFacts
  rw [h1, h2, h3, ← hP]
  show _ = true
  kernel_rfl
theorem StepBrake_holds : Rows.FnStepBrakeSaid :=
  OpenClaim.holds_of_wide 5 Try.f5 rfl rfl rfl rfl rfl rfl rfl ⟨rfl, rfl, rfl, rfl, rfl⟩ rfl rfl rfl rfl rfl (by kernel_rfl) Try.func5 closedStepBrake
    (of_decide_eq_true (by kernel_rfl)) (by unfold Func.isWrapper; first | (rw [if_pos (by decide +kernel)]; kernel_rfl) | (rw [if_neg (by decide +kernel)]; exact ⟨rfl, rfl⟩))
    (fun os started H enc _ => liftedStepBrake os started H enc)
end Go.Proofs.Ytmfhfebakdkkdaa
