/-
  FOR EVERY LEVEL, EVERY PLAYER, EVERY KEY AND EVERY LIST OF INPUTS the law FnExactReplayMake returns true. No condition.
-/
import Derived.Test.YtmfhfebakdkkdaaGreatLawReplayMakeX
import Derived.Test.YtmfhfebakdkkdaaGreatZHead
import Derived.Test.YtmfhfebakdkkdaaGreatHead
namespace Go.Proofs.YtmfhfebakdkkdaaGreat
open Go.ChangeShapes Go.WideShapes Go.ChangeAt Go.RowKit
set_option maxRecDepth 100000 in
theorem walkReplayMakeX : LawWalk 5 Tryz.f5 := by
  intro H enc W base args ds ps hval hA hlt _
  rw [Tryz.params5] at hA hval
  obtain ⟨v0, vs0, d0, ds0, p0, q0, hargs, rfl, rfl, h0, r0⟩ := trodAll_cons hA
  obtain ⟨v1, vs1, d1, ds1, p1, q1, rfl, rfl, rfl, h1, r1⟩ := trodAll_cons r0
  obtain ⟨v2, vs2, d2, ds2, p2, q2, rfl, rfl, rfl, h2, r2⟩ := trodAll_cons r1
  obtain ⟨v3, vs3, d3, ds3, p3, q3, rfl, rfl, rfl, h3, r3⟩ := trodAll_cons r2
  obtain ⟨rfl, rfl, rfl⟩ := trodAll_nil r3
  obtain rfl : args = #[v0, v1, v2, v3] := by cases args; simp_all
  obtain ⟨l, A, A', c, c', rfl, s1, s2, m1, m2⟩ := open_level (hval 0 53 v0 rfl rfl) h0
  obtain ⟨A1, n1, c1, rfl⟩ := okWide_slice Tryz.underlying54 (hval 3 54 v3 rfl rfl)
  obtain ⟨ins, s3, _, m3⟩ := open_inputs h3
  obtain rfl := s3.len
  obtain ⟨pl, rfl, rfl, rfl, w1⟩ := open_int Tryz.underlying3 (hval 1 3 v1 rfl rfl) h1
  obtain ⟨key, rfl, rfl, rfl, w2⟩ := open_int Tryz.underlying3 (hval 2 3 v2 rfl rfl) h2
  exact lawReplayMakeX l pl key ins A A' A1 c c' c1 W s1 s2 s3 m1 m2 (Nat.le_trans m3.1 m3.2)
set_option maxRecDepth 100000 in
theorem liftedReplayMakeX (os : Os) (started : os.Started) (H : Type) (enc : TypeId × Value → H) :
    ReturnsInHanded {} Tryz.checked os 5 .any (Rows.fnExactReplayMakeSpec.pre6 enc Tryz.prog Tryz.f5 Rows.fnExactReplayMakeRow.domain false) (Rows.fnExactReplayMakeSpec.post enc Tryz.prog Tryz.f5 false true false false) :=
  law_lifted (s := Rows.fnExactReplayMakeSpec) (tb := 4) os started H enc (by kernel_rfl) Tryz.func5 (by kernel_rfl) (by kernel_rfl) Tryz.underlying4 rfl (fun ds hl => by
      match ds, hl with
      | [d0, d1, d2, d3], _ => rfl)
    (ChangeSpec.witness6 (enc := enc) (C := Tryz.checked) false ⟨#[], #[.agg #[.int .i64 0, .int .i64 0, .int .i64 0, .int .i64 0, .slice none 0 0, .slice none 0 0, .int .i64 0, .int .i64 0, .int .i64 0, .int .i64 0, .int .i64 0], .int .i64 0, .int .i64 0, .slice none 0 0], []⟩ 8 (by kernel_rfl) (by kernel_rfl) (by kernel_rfl) (by kernel_rfl)) walkReplayMakeX
theorem closedReplayMakeX : joinedFacts Tryz.pinned.checked.prog 5 Tryz.f5 Rows.fnExactReplayMakeSpec Rows.fnExactReplayMakeRow = true := by
  show joinedFacts Tryz.prog 5 Tryz.f5 Rows.fnExactReplayMakeSpec Rows.fnExactReplayMakeRow = true
  obtain ⟨P, hP⟩ : ∃ P, Tryz.prog = P := ⟨_, rfl⟩
  rw [hP]
  have h1 : P.mayEnter = true := hP ▸ mayEnter_
  have h2 : P.liftsFinal = false := hP ▸ lifts_
  have h3 : P.make = some Make.cut := hP ▸ make_
  unfold joinedFacts
  rw [h1, h2, h3, ← hP]
  show _ = true
  kernel_rfl
theorem ReplayMakeX_holds : Rows.FnExactReplayMakeSaid :=
  OpenClaim.holds_of_wide 5 Tryz.f5 rfl rfl rfl rfl rfl rfl rfl ⟨rfl, rfl, rfl, rfl, rfl⟩ rfl rfl rfl rfl rfl (by kernel_rfl) Tryz.func5 closedReplayMakeX
    (of_decide_eq_true (by kernel_rfl)) (by unfold Func.isWrapper; first | (rw [if_pos (by decide +kernel)]; kernel_rfl) | (rw [if_neg (by decide +kernel)]; exact ⟨rfl, rfl⟩))
    (fun os started H enc _ => liftedReplayMakeX os started H enc)
end Go.Proofs.YtmfhfebakdkkdaaGreat
