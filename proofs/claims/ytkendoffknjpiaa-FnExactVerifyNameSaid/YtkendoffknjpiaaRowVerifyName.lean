/-
  FOR EVERY NUMBER the law FnExactVerifyName returns true: VerifyName of the program and of the reference answer alike. No condition.
-/
import Derived.Test.YtkendoffknjpiaaLawVerifyName
import Derived.Test.YtkendoffknjpiaaOpen
import Derived.Test.YtkendoffknjpiaaHead
namespace Go.Proofs.Ytkendoffknjpiaa
open Go.ChangeShapes Go.WideShapes Go.ChangeAt Go.RowKit
set_option maxRecDepth 100000 in
theorem walkVerifyName : LawWalk 3 Try.f3 := by
  intro H enc W base args ds ps hval hA hlt _
  rw [Try.params3] at hA hval
  obtain ⟨v0, vs0, d0, ds0, p0, q0, hargs, rfl, rfl, h0, r0⟩ := trodAll_cons hA
  obtain ⟨rfl, rfl, rfl⟩ := trodAll_nil r0
  obtain rfl : args = #[v0] := by cases args; simp_all
  obtain ⟨a0, rfl, rfl, rfl, w0⟩ := open_int Try.underlying3 (hval 0 3 v0 rfl rfl) h0
  exact lawVerifyName a0 W
set_option maxRecDepth 100000 in
theorem liftedVerifyName (os : Os) (started : os.Started) (H : Type) (enc : TypeId × Value → H) :
    ReturnsInHanded {} Try.checked os 3 .any (Rows.fnExactVerifyNameSpec.pre6 enc Try.prog Try.f3 Rows.fnExactVerifyNameRow.domain false) (Rows.fnExactVerifyNameSpec.post enc Try.prog Try.f3 false true false false) :=
  law_lifted (s := Rows.fnExactVerifyNameSpec) (tb := 4) os started H enc (by kernel_rfl) Try.func3 (by kernel_rfl) (by kernel_rfl) Try.underlying4 rfl (fun ds hl => by
      match ds, hl with
      | [d0], _ => rfl)
    (ChangeSpec.witness6 (enc := enc) (C := Try.checked) false ⟨#[], #[.int .i64 0], []⟩ 8 (by kernel_rfl) (by kernel_rfl) (by kernel_rfl) (by kernel_rfl)) walkVerifyName
theorem closedVerifyName : joinedFacts Try.pinned.checked.prog 3 Try.f3 Rows.fnExactVerifyNameSpec Rows.fnExactVerifyNameRow = true := by
  show joinedFacts Try.prog 3 Try.f3 Rows.fnExactVerifyNameSpec Rows.fnExactVerifyNameRow = true
  obtain ⟨P, hP⟩ : ∃ P, Try.prog = P := ⟨_, rfl⟩
  rw [hP]
  have h1 : P.mayEnter = true := hP ▸ mayEnter_
  have h2 : P.liftsFinal = false := hP ▸ lifts_
  have h3 : P.make = some Make.cut := hP ▸ make_
  unfold joinedFacts
  rw [h1, h2, h3, ← hP]
  show _ = true
  kernel_rfl
theorem VerifyName_holds : Rows.FnExactVerifyNameSaid :=
  OpenClaim.holds_of_wide 3 Try.f3 rfl rfl rfl rfl rfl rfl rfl ⟨rfl, rfl, rfl, rfl, rfl⟩ rfl rfl rfl rfl rfl (by kernel_rfl) Try.func3 closedVerifyName
    (of_decide_eq_true (by kernel_rfl)) (by unfold Func.isWrapper; first | (rw [if_pos (by decide +kernel)]; kernel_rfl) | (rw [if_neg (by decide +kernel)]; exact ⟨rfl, rfl⟩))
    (fun os started H enc _ => liftedVerifyName os started H enc)
end Go.Proofs.Ytkendoffknjpiaa
