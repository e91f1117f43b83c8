/-
  The law FnMakeSame: opened arguments, the lift, the statement.
-/
import Derived.Test.YtmfhfebakdkkdaaGreatLawMakeSame
import Derived.Test.YtmfhfebakdkkdaaGreatZHead
import Derived.Test.YtmfhfebakdkkdaaGreatHead
namespace Go.Proofs.YtmfhfebakdkkdaaGreat
open Go.ChangeShapes Go.WideShapes Go.ChangeAt Go.RowKit
set_option maxRecDepth 100000 in
theorem walkMakeSame : LawWalk 4 Tryz.f4 := by
  intro H enc W base args ds ps hval hA hlt _
  rw [Tryz.params4] at hA hval
  obtain ⟨v0, vs0, d0, ds0, p0, q0, hargs, rfl, rfl, h0, r0⟩ := trodAll_cons hA
  obtain ⟨v1, vs1, d1, ds1, p1, q1, rfl, rfl, rfl, h1, r1⟩ := trodAll_cons r0
  obtain ⟨rfl, rfl, rfl⟩ := trodAll_nil r1
  obtain rfl : args = #[v0, v1] := by cases args; simp_all
  obtain ⟨A0, n0, c0, rfl⟩ := okWide_slice Tryz.underlying22 (hval 0 22 v0 rfl rfl)
  obtain ⟨l0, s0, g0, m0⟩ := open_bytes h0
  obtain ⟨A1, n1, c1, rfl⟩ := okWide_slice Tryz.underlying22 (hval 1 22 v1 rfl rfl)
  obtain ⟨l1, s1, g1, m1⟩ := open_bytes h1
  exact lawMakeSame A0 A1 n0 n1 c0 c1 l0 W s0 (fun x hx => u8_bd (g0 x hx)) (Nat.le_trans m0.1 m0.2) m0.1 m0.2 (Nat.le_trans m1.1 m1.2)
set_option maxRecDepth 100000 in
theorem liftedMakeSame (os : Os) (started : os.Started) (H : Type) (enc : TypeId × Value → H) :
    ReturnsInHanded {} Tryz.checked os 4 .any (Rows.fnMakeSameSpec.pre6 enc Tryz.prog Tryz.f4 Rows.fnMakeSameRow.domain false) (Rows.fnMakeSameSpec.post enc Tryz.prog Tryz.f4 false true false false) :=
  law_lifted (s := Rows.fnMakeSameSpec) (tb := 4) os started H enc (by kernel_rfl) Tryz.func4 (by kernel_rfl) (by kernel_rfl) Tryz.underlying4 rfl (fun ds hl => by
      match ds, hl with
      | [d0, d1], _ => rfl)
    (ChangeSpec.witness6 (enc := enc) (C := Tryz.checked) false ⟨#[], #[.slice none 0 0, .slice none 0 0], []⟩ 8 (by kernel_rfl) (by kernel_rfl) (by kernel_rfl) (by kernel_rfl)) walkMakeSame
theorem closedMakeSame : joinedFacts Tryz.pinned.checked.prog 4 Tryz.f4 Rows.fnMakeSameSpec Rows.fnMakeSameRow = true := by
  show joinedFacts Tryz.prog 4 Tryz.f4 Rows.fnMakeSameSpec Rows.fnMakeSameRow = true
  obtain ⟨P, hP⟩ : ∃ P, Tryz.prog = P := ⟨_, rfl⟩
  rw [hP]
  have h1 : P.mayEnter = true := hP ▸ mayEnter_
  have h2 : P.liftsFinal = false := hP ▸ lifts_
  have h3 : P.make = some Make.cut := hP ▸ make_
  unfold joinedFacts
  rw [h1, h2, h3, ← hP]
  show _ = true
  kernel_rfl
theorem MakeSame_holds : Rows.FnMakeSameSaid :=
  OpenClaim.holds_of_wide 4 Tryz.f4 rfl rfl rfl rfl rfl rfl rfl ⟨rfl, rfl, rfl, rfl, rfl⟩ rfl rfl rfl rfl rfl (by kernel_rfl) Tryz.func4 closedMakeSame
    (of_decide_eq_true (by kernel_rfl)) (by unfold Func.isWrapper; first | (rw [if_pos (by decide +kernel)]; kernel_rfl) | (rw [if_neg (by decide +kernel)]; exact ⟨rfl, rfl⟩))
    (fun os started H enc _ => liftedMakeSame os started H enc)
end Go.Proofs.YtmfhfebakdkkdaaGreat
