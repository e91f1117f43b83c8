/-
  FOR EVERY REPLAY the law FnExactReplayList returns true: the program's ReplayList and the reference's answer alike. No condition.
-/
import Derived.Test.YtkendoffknjpiaaLawReplayList
import Derived.Test.YtkendoffknjpiaaOpen
import Derived.Test.YtkendoffknjpiaaHead
namespace Go.Proofs.Ytkendoffknjpiaa
open Go.ChangeShapes Go.WideShapes Go.ChangeAt Go.RowKit
set_option maxRecDepth 100000 in
theorem walkReplayList : LawWalk 8 Try.f8 := by
  intro H enc W base args ds ps hval hA hlt _
  rw [Try.params8] at hA hval
  obtain ⟨v0, vs0, d0, ds0, p0, q0, hargs, rfl, rfl, h0, r0⟩ := trodAll_cons hA
  obtain ⟨rfl, rfl, rfl⟩ := trodAll_nil r0
  obtain rfl : args = #[v0] := by cases args; simp_all
  obtain ⟨lv, pl, sc, tag, ins, hs, A, A', c, c', rfl, s1, s2, m1, m2, _⟩ := open_replay (hval 0 30 v0 rfl rfl) h0
  exact lawReplayList A A' c c' ⟨lv, pl, sc, ins, hs, tag⟩ W s1 s2 m1 m2
set_option maxRecDepth 100000 in
theorem liftedReplayList (os : Os) (started : os.Started) (H : Type) (enc : TypeId × Value → H) :
    ReturnsInHanded {} Try.checked os 8 .any (Rows.fnExactReplayListSpec.pre6 enc Try.prog Try.f8 Rows.fnExactReplayListRow.domain false) (Rows.fnExactReplayListSpec.post enc Try.prog Try.f8 false true false false) :=
  law_lifted (s := Rows.fnExactReplayListSpec) (tb := 4) os started H enc (by kernel_rfl) Try.func8 (by kernel_rfl) (by kernel_rfl) Try.underlying4 rfl (fun ds hl => by
      match ds, hl with
      | [d], _ => rfl)
    (ChangeSpec.witness6 (enc := enc) (C := Try.checked) false ⟨#[], #[.agg #[.int .i64 0, .int .i64 0, .int .i64 0, .slice none 0 0, .slice none 0 0, .int .i64 0]], []⟩ 8 (by kernel_rfl) (by kernel_rfl) (by kernel_rfl) (by kernel_rfl)) walkReplayList
theorem closedReplayList : joinedFacts Try.pinned.checked.prog 8 Try.f8 Rows.fnExactReplayListSpec Rows.fnExactReplayListRow = true := by
  show joinedFacts Try.prog 8 Try.f8 Rows.fnExactReplayListSpec Rows.fnExactReplayListRow = true
  obtain ⟨P, hP⟩ : ∃ P, Try.prog = P := ⟨_, rfl⟩
  rw [hP]
  have h1 : P.mayEnter = true := hP ▸ mayEnter_
  have h2 : P.liftsFinal = false := hP ▸ lifts_
  have h3 : P.make = some Make.cut := hP ▸ make_
  unfold joinedFacts
  rw [h1, h2, h3, ← hP]
  show _ = true
  kernel_rfl
theorem ReplayList_holds : Rows.FnExactReplayListSaid :=
  OpenClaim.holds_of_wide 8 Try.f8 rfl rfl rfl rfl rfl rfl rfl ⟨rfl, rfl, rfl, rfl, rfl⟩ rfl rfl rfl rfl rfl (by kernel_rfl) Try.func8 closedReplayList
    (of_decide_eq_true (by kernel_rfl)) (by unfold Func.isWrapper; first | (rw [if_pos (by decide +kernel)]; kernel_rfl) | (rw [if_neg (by decide +kernel)]; exact ⟨rfl, rfl⟩))
    (fun os started H enc _ => liftedReplayList os started H enc)
end Go.Proofs.Ytkendoffknjpiaa
