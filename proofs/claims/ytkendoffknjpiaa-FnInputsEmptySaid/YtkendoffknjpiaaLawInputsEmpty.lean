/- The law FnInputsEmpty: its walk. Printed by gen/lawsE.py. -/
import Derived.Test.YtkendoffknjpiaaDrE
import Derived.Test.YtkendoffknjpiaaLawParts
namespace Go.Proofs.Ytkendoffknjpiaa
open Go.ChangeShapes Go.WideShapes Go.ChangeAt Go.RowKit
theorem inputsOf_le (ps : List Prt) : (inputsOf ps).length ≤ 60 := by
  unfold inputsOf
  cases h : goodParts ps with
  | false => simp
  | true =>
    simp only [if_true]
    exact outTo_len (goodParts_iff.1 h) (Nat.le_refl _)
set_option maxRecDepth 100000 in
set_option maxHeartbeats 2000000 in
theorem lawInputsEmpty (A : Option Addr) (n c : Nat) (l : List Int) (w : World) (h : Sl w 1 encU8 A n l) (hl : ∀ x ∈ l, 0 ≤ x ∧ x < 256) (hn : n ≤ 9223372036854775807) (hnc : n ≤ c) (hc : c ≤ 9223372036854775807) :
    Calls Try.prog 12 #[.slice A n c] w fun e w' => e = .returned (.bool true) ∧ Below w.heap.size w w' := by
  by_cases h1 : 1048576 < (n : Int)
  · go_enter Try.func12, Try.ntmps12
    go_wp2
    go_ret
    exact ⟨rfl, Below.refl _ _⟩
  · go_enter Try.func12, Try.ntmps12
    go_wp2_with fail
    refine (drawReplayInputs_any A n c l _ h hl hn hnc hc).mono ?_
    rintro e w1 ⟨ps, A1, c1, rfl, hpl, ho1, hd1⟩
    have hL := inputsOf_le ps
    clear h hl
    go_wp2_with fail
    refine (implReplayInputs_any _ _ ps _ (ho1.sl' encPrt_len) (by omega)).mono ?_
    rintro e w2 ⟨AG, cG, rfl, hcG, hG2, hb2⟩
    have hd2 := below_after hd1 hb2
    have ho2 := ho1.later hb2
    clear hd1 hb2 ho1
    go_wp2_with fail
    refine (specReplayInputs_any _ _ ps _ (ho2.sl' encPrt_len) (by omega)).mono ?_
    rintro e w3 ⟨AS, cS, rfl, hcS, hS3, hb3⟩
    have hd3 := below_after hd2 hb3
    have ho3 := ho2.later hb3
    have hG3 := hG2.later hb3
    clear hd2 hb3 ho2 hG2
    go_wp2_with fail
    refine (sameInputs_same _ _ _ _ _ _ _ _ (hG3.sl' encInp_len) (hS3.sl' encInp_len) (by omega) (by omega)).mono ?_
    rintro e w4 ⟨rfl, hb4⟩
    have hd4 := below_after hd3 hb4
    have ho4 := ho3.later hb4
    have hG4 := hG3.later hb4
    have hS4 := hS3.later hb4
    clear hd3 hb4 ho3 hG3 hS3
    cases hgo : goodParts ps
    · go_wp2_with fail
      refine (sameInputs_same _ _ _ _ _ _ _ _ (hG4.sl' encInp_len) (hS4.sl' encInp_len) (by omega) (by omega)).mono ?_
      rintro e w5 ⟨rfl, hb5⟩
      have hd5 := below_after hd4 hb5
      go_wp2
      go_ret
      exact ⟨rfl, hd5⟩
    · obtain ⟨hpi, hio, hil⟩ := partsL_inputs hgo
      have HGO := Lib.hid hgo
      have HPI := Lib.hid hpi
      have HIO := Lib.hid hio
      have hil2 : ((inputsOf ps).length : Int) ≤ 60 := by omega
      clear hpi hio
      have hg0 : Hid (goodParts [] = true) := Lib.hid rfl
      have hi0 : Hid (inputsOf [] = []) := Lib.hid rfl
      have hp0 : Hid (partsL [] = []) := Lib.hid rfl
      go_wp2_with fail
      refine (implReplayInputs_any _ 0 [] _ Sl.nil (by simp)).mono ?_
      rw [hg0.out, hi0.out]
      rintro e w5 ⟨A5, c5, rfl, hc5, hP5, hb5⟩
      have hd5 := below_after (below_alloc hd4 _) hb5
      clear hd4 hb5
      go_wp2_with fail
      refine (implReplayParts_any _ _ [] _ (hP5.sl' encInp_len) (by simp)).mono ?_
      rw [hp0.out]
      rintro e w6 ⟨A6, c6, rfl, hc6, hP6, hb6⟩
      have hd6 := below_after hd5 hb6
      go_wp2
      go_ret
      exact ⟨rfl, hd6⟩
end Go.Proofs.Ytkendoffknjpiaa
