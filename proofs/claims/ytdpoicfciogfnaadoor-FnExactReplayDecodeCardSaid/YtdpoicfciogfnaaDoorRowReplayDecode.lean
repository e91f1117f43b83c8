/-
  FOR EVERY STRING, the library's variables lying as they are laid, the law FnExactReplayDecode returns true: the program's ReplayDecode and the reference's return the same replay and the same answer, in memory of the call's own. No other condition.
-/
import Derived.Test.YtdpoicfciogfnaaDoorLawReplayDecode
import Derived.Test.YtdpoicfciogfnaaDoorZHead
import Derived.Test.YtdpoicfciogfnaaDoorFrameM
import Derived.Test.YtdpoicfciogfnaaDoorTie
import Derived.Test.YtdpoicfciogfnaaDoorCards
import Derived.LaidMore
import Derived.Lay
import Derived.LaidHandle
import Derived.SevenTiedAt
import Derived.Test.YtdpoicfciogfnaaDoorHead
namespace Go.Proofs.YtdpoicfciogfnaaDoor
open Go.ChangeShapes Go.WideShapes Go.ChangeAt Go.RowKit
set_option maxRecDepth 100000 in
theorem walkReplayDecode : LawWalkM 5 Tryd.f5 := by
  intro H enc W base args ds ps hval hA hlt _ hT
  rw [Tryd.params5] at hA hval
  obtain ⟨v0, vs0, d0, ds0, p0, q0, hargs, rfl, rfl, h0, r0⟩ := trodAll_cons hA
  obtain ⟨rfl, rfl, rfl⟩ := trodAll_nil r0
  obtain rfl : args = #[v0] := by cases args; simp_all
  obtain ⟨line, rfl, rfl, rfl, ws⟩ := Go.ChangeMaps.open_string Tryd.underlying9 (hval 0 9 v0 rfl rfl) h0
  have he : st line.data.toList = line := by simp [st]
  have := lawReplayDecode line.data.toList W hT (by rw [← st_size, he]; unfold maxLen at ws; omega)
  rw [he] at this
  exact this
theorem doorReplayDecode (os : Os) (args : Array Value) : laidMet Tryd.prog Rows.fnExactReplayDecodeRow.laid ((World.laidAll Tryd.prog os Rows.fnExactReplayDecodeRow.laid).forCall (fun _ _ => 0) ⟨#[], args, []⟩).memory :=
  laidMet_laidAll _ (by kernel_rfl) (by kernel_rfl)
set_option maxRecDepth 100000 in
theorem liftedReplayDecode (os : Os) (started : os.Started) (H : Type) (enc : TypeId × Value → H) :
    ReturnsInHanded {} Tryd.checked os 5 .any (fun w args => (Rows.fnExactReplayDecodeSpec.pre enc Tryd.prog Tryd.f5 [] false w args ∧ laidMet Tryd.prog Rows.fnExactReplayDecodeRow.laid w) ∧ sizedMet enc Tryd.prog Tryd.f5 (OpenSpec.ofChange Rows.fnExactReplayDecodeSpec) false w args) (Rows.fnExactReplayDecodeSpec.post enc Tryd.prog Tryd.f5 false true false false) :=
  law_laidM (s := Rows.fnExactReplayDecodeSpec) (tb := 4) os started H enc (by kernel_rfl) Tryd.func5 (by kernel_rfl) (by kernel_rfl) Tryd.underlying4 rfl (fun ds hl => by
      match ds, hl with
      | [d0], _ => rfl)
    (ChangeSpec.witness_shaped (enc := enc) (C := Tryd.checked) (os := os) (X := fun w _ => laidMet Tryd.prog Rows.fnExactReplayDecodeRow.laid w) false (World.laidAll Tryd.prog os Rows.fnExactReplayDecodeRow.laid) #[.string ⟨#[]⟩] 8 (World.laidAll_os _ _ _) (World.shaped_of_ZipB (by kernel_rfl) (by kernel_rfl)) (by kernel_rfl) (by kernel_rfl) (by kernel_rfl) (doorReplayDecode os _)) walkReplayDecode
theorem closedReplayDecode : joinedFacts Tryd.pinned.checked.prog 5 Tryd.f5 Rows.fnExactReplayDecodeSpec Rows.fnExactReplayDecodeRow = true := by
  show joinedFacts Tryd.prog 5 Tryd.f5 Rows.fnExactReplayDecodeSpec Rows.fnExactReplayDecodeRow = true
  obtain ⟨P, hP⟩ : ∃ P, Tryd.prog = P := ⟨_, rfl⟩
  rw [hP]
  have h1 : P.mayEnter = true := hP ▸ mayEnter_
  have h2 : P.liftsFinal = false := hP ▸ lifts_
  have h3 : P.make = some Make.cut := hP ▸ make_
  unfold joinedFacts
  rw [h1, h2, h3, ← hP]
  show _ = true
  kernel_rfl
theorem ReplayDecode_row : Rows.FnExactReplayDecodeSaid :=
  OpenClaim.holds_of_wide 5 Tryd.f5 rfl rfl rfl rfl rfl rfl rfl ⟨rfl, rfl, rfl, rfl, rfl⟩ rfl rfl rfl rfl rfl (by kernel_rfl) Tryd.func5 closedReplayDecode
    (of_decide_eq_true (by kernel_rfl)) (by unfold Func.isWrapper; first | (rw [if_pos (by decide +kernel)]; kernel_rfl) | (rw [if_neg (by decide +kernel)]; exact ⟨rfl, rfl⟩))
    (fun os started H enc _ => liftedReplayDecode os started H enc)
set_option maxRecDepth 100000 in
theorem ReplayDecode_holds : Rows.FnExactReplayDecodeCardSaid :=
  Claim7.holds_tied_plain_at .later [] _ true _ true ReplayDecode_row (fun _ h => by cases h) (by kernel_rfl) (fun _ h => by cases h) fnExactReplayDecode_row_tie rfl ⟨rfl, rfl⟩ (by kernel_rfl) rfl
    (fun f fn hf hfn => by
      obtain rfl : f = 5 := Option.some.inj ((show Tryd.prog.funcNamed Rows.fnExactReplayDecodeRow.func = some 5 by kernel_rfl).symm.trans hf) |>.symm
      obtain rfl : fn = Tryd.f5 := (Option.some.inj (Tryd.func5.symm.trans hfn)).symm
      exact ⟨by kernel_rfl, fun j t ht => by
        rw [Tryd.params5] at ht
        have hm : t ∈ [9] := by simpa using Array.mem_of_getElem? ht
        have hall : ([9].all fun u => !Tryd.prog.wantsStandIn u) = true := by kernel_rfl
        exact (show Tryd.prog.wantsStandIn t = false by simpa using List.all_eq_true.1 hall t hm)⟩)
    (by kernel_rfl)
end Go.Proofs.YtdpoicfciogfnaaDoor
