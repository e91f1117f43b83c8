/-
  FOR EVERY LEVEL AND ALL INPUTS the law FnExactRunHashes returns true: the program's RunHashes returns what the reference's returns. No condition.
-/
import Derived.Test.YtmfhfebakdkkdaaLawRunHashesX
import Derived.Test.YtmfhfebakdkkdaaZHead
import Derived.Test.YtmfhfebakdkkdaaHead
namespace Go.Proofs.Ytmfhfebakdkkdaa
open Go.ChangeShapes Go.WideShapes Go.ChangeAt Go.RowKit
set_option maxRecDepth 100000 in
theorem walkRunHashesX : LawWalk 24 Try.f24 := by
  intro H enc W base args ds ps hval hA hlt _
  rw [Try.params24] at hA hval
  obtain ⟨v0, vs0, d0, ds0, p0, q0, hargs, rfl, rfl, h0, r0⟩ := trodAll_cons hA
  obtain ⟨v1, vs1, d1, ds1, p1, q1, rfl, rfl, rfl, h1, r1⟩ := trodAll_cons r0
  obtain ⟨rfl, rfl, rfl⟩ := trodAll_nil r1
  obtain rfl : args = #[v0, v1] := by cases args; simp_all
  obtain ⟨l, A, A', c, c', rfl, s1, s2, m1, m2⟩ := open_level (hval 0 48 v0 rfl rfl) h0
  obtain ⟨A1, n1, c1, rfl⟩ := okWide_slice Try.underlying49 (hval 1 49 v1 rfl rfl)
  obtain ⟨ins, s3, _, m3⟩ := open_inputs h1
  obtain rfl := s3.len
  exact lawRunHashesX l ins A A' A1 c c' c1 W s1 s2 s3 m1 m2 (Nat.le_trans m3.1 m3.2)
set_option maxRecDepth 100000 in
theorem liftedRunHashesX (os : Os) (started : os.Started) (H : Type) (enc : TypeId × Value → H) :
    ReturnsInHanded {} Try.checked os 24 .any (Rows.fnExactRunHashesSpec.pre6 enc Try.prog Try.f24 Rows.fnExactRunHashesRow.domain false) (Rows.fnExactRunHashesSpec.post enc Try.prog Try.f24 false true false false) :=
  law_lifted (s := Rows.fnExactRunHashesSpec) (tb := 4) os started H enc (by kernel_rfl) Try.func24 (by kernel_rfl) (by kernel_rfl) Try.underlying4 rfl (fun ds hl => by
      match ds, hl with
      | [d0, d1], _ => rfl)
    (ChangeSpec.witness6 (enc := enc) (C := Try.checked) false ⟨#[], #[.agg #[.int .i64 0, .int .i64 0, .int .i64 0, .int .i64 0, .slice none 0 0, .slice none 0 0, .int .i64 0, .int .i64 0, .int .i64 0, .int .i64 0, .int .i64 0], .slice none 0 0], []⟩ 8 (by kernel_rfl) (by kernel_rfl) (by kernel_rfl) (by kernel_rfl)) walkRunHashesX
theorem closedRunHashesX : joinedFacts Try.pinned.checked.prog 24 Try.f24 Rows.fnExactRunHashesSpec Rows.fnExactRunHashesRow = true := by
  show joinedFacts Try.prog 24 Try.f24 Rows.fnExactRunHashesSpec Rows.fnExactRunHashesRow = true
  obtain ⟨P, hP⟩ : ∃ P, Try.prog = P := ⟨_, rfl⟩
  rw [hP]
  have h1 : P.mayEnter = true := hP ▸ mayEnter_
  have h2 : P.liftsFinal = false := hP ▸ lifts_
  have h3 : P.make = some Make.cut := hP ▸ make_
  unfold joinedFacts
  rw [h1, h2, h3, ← hP]
  show _ = true
  kernel_rfl
theorem RunHashesX_holds : Rows.FnExactRunHashesSaid :=
  OpenClaim.holds_of_wide 24 Try.f24 rfl rfl rfl rfl rfl rfl rfl ⟨rfl, rfl, rfl, rfl, rfl⟩ rfl rfl rfl rfl rfl (by kernel_rfl) Try.func24 closedRunHashesX
    (of_decide_eq_true (by kernel_rfl)) (by unfold Func.isWrapper; first | (rw [if_pos (by decide +kernel)]; kernel_rfl) | (rw [if_neg (by decide +kernel)]; exact ⟨rfl, rfl⟩))
    (fun os started H enc _ => liftedRunHashesX os started H enc)
end Go.Proofs.Ytmfhfebakdkkdaa
