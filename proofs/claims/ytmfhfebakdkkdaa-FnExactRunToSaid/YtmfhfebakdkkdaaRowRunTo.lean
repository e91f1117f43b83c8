/-
  FOR EVERY LEVEL, EVERY LIST OF INPUTS AND EVERY NUMBER the law FnExactRunTo returns true: the program's RunTo and the reference's answer alike; the arguments stand. No condition.
-/
import Derived.Test.YtmfhfebakdkkdaaLawRunTo
import Derived.Test.YtmfhfebakdkkdaaOpenL
import Derived.Test.YtmfhfebakdkkdaaHead
namespace Go.Proofs.Ytmfhfebakdkkdaa
open Go.ChangeShapes Go.WideShapes Go.ChangeAt Go.RowKit
set_option maxRecDepth 100000 in
theorem walkRunTo : LawWalk 13 Try.f13 := by
  intro H enc W base args ds ps hval hA hlt _
  rw [Try.params13] at hA hval
  obtain ⟨v0, vs0, d0, ds0, p0, q0, hargs, rfl, rfl, h0, r0⟩ := trodAll_cons hA
  obtain ⟨v1, vs1, d1, ds1, p1, q1, rfl, rfl, rfl, h1, r1⟩ := trodAll_cons r0
  obtain ⟨v2, vs2, d2, ds2, p2, q2, rfl, rfl, rfl, h2, r2⟩ := trodAll_cons r1
  obtain ⟨rfl, rfl, rfl⟩ := trodAll_nil r2
  obtain rfl : args = #[v0, v1, v2] := by cases args; simp_all
  obtain ⟨l, A, A', c, c', rfl, s1, s2, m1, m2⟩ := open_level (hval 0 48 v0 rfl rfl) h0
  obtain ⟨A1, n1, c1, rfl⟩ := okWide_slice Try.underlying49 (hval 1 49 v1 rfl rfl)
  obtain ⟨ins, s3, _, m3⟩ := open_inputs h1
  obtain rfl := s3.len
  obtain ⟨k, rfl, rfl, rfl, w2⟩ := open_int Try.underlying3 (hval 2 3 v2 rfl rfl) h2
  exact lawRunTo l ins k A A' A1 c c' c1 W s1 s2 s3 m1 m2 (Nat.le_trans m3.1 m3.2)
set_option maxRecDepth 100000 in
theorem liftedRunTo (os : Os) (started : os.Started) (H : Type) (enc : TypeId × Value → H) :
    ReturnsInHanded {} Try.checked os 13 .any (Rows.fnExactRunToSpec.pre6 enc Try.prog Try.f13 Rows.fnExactRunToRow.domain false) (Rows.fnExactRunToSpec.post enc Try.prog Try.f13 false true false false) :=
  law_lifted (s := Rows.fnExactRunToSpec) (tb := 4) os started H enc (by kernel_rfl) Try.func13 (by kernel_rfl) (by kernel_rfl) Try.underlying4 rfl (fun ds hl => by
      match ds, hl with
      | [d0, d1, d2], _ => rfl)
    (ChangeSpec.witness6 (enc := enc) (C := Try.checked) false ⟨#[], #[.agg #[.int .i64 0, .int .i64 0, .int .i64 0, .int .i64 0, .slice none 0 0, .slice none 0 0, .int .i64 0, .int .i64 0, .int .i64 0, .int .i64 0, .int .i64 0], .slice none 0 0, .int .i64 0], []⟩ 8 (by kernel_rfl) (by kernel_rfl) (by kernel_rfl) (by kernel_rfl)) walkRunTo
theorem closedRunTo : joinedFacts Try.pinned.checked.prog 13 Try.f13 Rows.fnExactRunToSpec Rows.fnExactRunToRow = true := by
  show joinedFacts Try.prog 13 Try.f13 Rows.fnExactRunToSpec Rows.fnExactRunToRow = true
  obtain ⟨P, hP⟩ : ∃ P, Try.prog = P := ⟨_, rfl⟩
  rw [hP]
  have h1 : P.mayEnter = true := hP ▸ mayEnter_
  have h2 : P.liftsFinal = false := hP ▸ lifts_
  have h3 : P.make = some Make.cut := hP ▸ make_
  unfold joinedFacts
  rw [h1, h2, h3, ← hP]
  show _ = true
  kernel_rfl
theorem RunTo_holds : Rows.FnExactRunToSaid :=
  OpenClaim.holds_of_wide 13 Try.f13 rfl rfl rfl rfl rfl rfl rfl ⟨rfl, rfl, rfl, rfl, rfl⟩ rfl rfl rfl rfl rfl (by kernel_rfl) Try.func13 closedRunTo
    (of_decide_eq_true (by kernel_rfl)) (by unfold Func.isWrapper; first | (rw [if_pos (by decide +kernel)]; kernel_rfl) | (rw [if_neg (by decide +kernel)]; exact ⟨rfl, rfl⟩))
    (fun os started H enc _ => liftedRunTo os started H enc)
end Go.Proofs.Ytmfhfebakdkkdaa
