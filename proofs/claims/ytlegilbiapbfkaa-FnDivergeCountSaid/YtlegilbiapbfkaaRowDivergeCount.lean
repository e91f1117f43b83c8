/-
  FOR EVERY CODE the law FnDivergeCount returns true: differences are counted. No condition.
-/
import Derived.Test.YtlegilbiapbfkaaLawDivergeCount
import Derived.Test.YtlegilbiapbfkaaZHead
import Derived.Test.YtlegilbiapbfkaaFrameC
import Derived.Test.YtlegilbiapbfkaaHead
namespace Go.Proofs.Ytlegilbiapbfkaa
open Go.ChangeShapes Go.WideShapes Go.ChangeAt Go.RowKit
set_option maxRecDepth 100000 in
theorem walkDivergeCount : LawWalkC 8 Try.f8 := by
  intro H enc W base args ds ps hval hA hlt _ tp
  rw [Try.params8] at hA hval
  obtain ⟨v0, vs0, d0, ds0, p0, q0, hargs, rfl, rfl, h0, r0⟩ := trodAll_cons hA
  obtain ⟨rfl, rfl, rfl⟩ := trodAll_nil r0
  obtain rfl : args = #[v0] := by cases args; simp_all
  obtain ⟨A0, n0, c0, rfl⟩ := okWide_slice Try.underlying26 (hval 0 26 v0 rfl rfl)
  obtain ⟨l0, s0, g0, m0⟩ := open_bytes h0
  exact below_fake (lawDivergeCount A0 n0 c0 l0 _ (sl_fake s0) (fun x hx => u8_bd (g0 x hx)) (Nat.le_trans m0.1 m0.2) m0.1 m0.2)
set_option maxRecDepth 100000 in
theorem liftedDivergeCount (os : Os) (started : os.Started) (H : Type) (enc : TypeId × Value → H) :
    ReturnsInLeavingWide {} Try.checked os 8 .any (Rows.fnDivergeCountSpec.pre6 enc Try.prog Try.f8 Rows.fnDivergeCountRow.domain false) (Rows.fnDivergeCountSpec.post enc Try.prog Try.f8 false true false false) :=
  law_leaving (s := Rows.fnDivergeCountSpec) (tb := 4) os started H enc (by kernel_rfl) Try.func8 Sq.func8 (by decide) Try.results8 (by kernel_rfl) (by kernel_rfl) Try.underlying4 rfl (fun ds hl => by
      match ds, hl with
      | [d0], _ => rfl)
    (ChangeSpec.witness6 (enc := enc) (C := Try.checked) false ⟨#[], #[.slice none 0 0], []⟩ 8 (by kernel_rfl) (by kernel_rfl) (by kernel_rfl) (by kernel_rfl)) walkDivergeCount
theorem closedDivergeCount : joinedFacts Try.pinned.checked.prog 8 Try.f8 Rows.fnDivergeCountSpec Rows.fnDivergeCountRow = true := by
  show joinedFacts Try.prog 8 Try.f8 Rows.fnDivergeCountSpec Rows.fnDivergeCountRow = true
  obtain ⟨P, hP⟩ : ∃ P, Try.prog = P := ⟨_, rfl⟩
  rw [hP]
  have h1 : P.mayEnter = true := hP ▸ mayEnter_
  have h2 : P.liftsFinal = false := hP ▸ lifts_
  have h3 : P.make = some Make.cut := hP ▸ make_
  unfold joinedFacts
  rw [h1, h2, h3, ← hP]
  show _ = true
  kernel_rfl
theorem DivergeCount_holds : Rows.FnDivergeCountSaid :=
  OpenClaim.holds_of_wide_leaving 8 Try.f8 rfl rfl rfl rfl rfl rfl rfl ⟨rfl, rfl, rfl, rfl, rfl⟩ rfl rfl rfl rfl rfl (by kernel_rfl) Try.func8 closedDivergeCount
    (of_decide_eq_true (by kernel_rfl)) (by unfold Func.isWrapper; first | (rw [if_pos (by decide +kernel)]; kernel_rfl) | (rw [if_neg (by decide +kernel)]; exact ⟨rfl, rfl⟩))
    (fun os started H enc _ => liftedDivergeCount os started H enc)
end Go.Proofs.Ytlegilbiapbfkaa
