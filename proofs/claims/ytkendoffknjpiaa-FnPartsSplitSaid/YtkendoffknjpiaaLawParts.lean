/- The laws over drawn inputs and their parts: FnParts. -/
import Derived.Test.YtkendoffknjpiaaDrD
import Derived.Test.YtkendoffknjpiaaPLaw
import Derived.Test.YtkendoffknjpiaaSame
import Derived.Test.YtkendoffknjpiaaRInpI
namespace Go.Proofs.Ytkendoffknjpiaa
open Go.ChangeShapes Go.WideShapes Go.ChangeAt Go.RowKit
theorem sameParts_same (A A' : Option Addr) (n n' c c' : Nat) (l : List Prt) (w : World) (h : Sl w 2 encPrt A n l) (h' : Sl w 2 encPrt A' n' l) (hn : n ≤ 2097152) (hn' : n' ≤ 2097152) :
    Calls Try.prog 47 #[.slice A n c, .slice A' n' c'] w fun e w' => e = .returned (.bool true) ∧ Below w.heap.size w w' :=
  (sameParts_any A A' n n' c c' l l w h h' hn hn').mono fun e w' ⟨h1, h2⟩ => ⟨by rw [h1, (eqL_iff eqPrt_iff l l).2 rfl], h2⟩
theorem sameInputs_same (A A' : Option Addr) (n n' c c' : Nat) (l : List Inp) (w : World) (h : Sl w 3 encInp A n l) (h' : Sl w 3 encInp A' n' l) (hn : n ≤ 2097152) (hn' : n' ≤ 2097152) :
    Calls Try.prog 50 #[.slice A n c, .slice A' n' c'] w fun e w' => e = .returned (.bool true) ∧ Below w.heap.size w w' :=
  (sameInputs_any A A' n n' c c' l l w h h' hn hn').mono fun e w' ⟨h1, h2⟩ => ⟨by rw [h1, (eqL_iff eqInp_iff l l).2 rfl], h2⟩
theorem partsL_le (l : List Inp) : (partsL l).length ≤ 60 := by
  unfold partsL
  cases h : inputsOkB l with
  | false => simp
  | true =>
    have h1 := (rparts_bd l l.length).1
    rw [List.take_length] at h1
    have h2 := (inputsOkB_iff.1 h).2
    simp [partsOf]
    omega
set_option maxRecDepth 100000 in
set_option maxHeartbeats 1000000 in
theorem lawParts (A : Option Addr) (n c : Nat) (l : List Int) (w : World) (h : Sl w 1 encU8 A n l) (hl : ∀ x ∈ l, 0 ≤ x ∧ x < 256) (hn : n ≤ 9223372036854775807) (hnc : n ≤ c) (hc : c ≤ 9223372036854775807) :
    Calls Try.prog 15 #[.slice A n c] w fun e w' => e = .returned (.bool true) ∧ Below w.heap.size w w' := by
  by_cases h1 : 1048576 < (n : Int)
  · go_enter Try.func15, Try.ntmps15
    go_wp2
    go_ret
    exact ⟨rfl, Below.refl _ _⟩
  · go_enter Try.func15, Try.ntmps15
    go_wp2_with fail
    refine (drawReplayParts_any A n c l _ h hl hn hnc hc).mono ?_
    rintro e w1 ⟨ins, A1, c1, rfl, ⟨_, hil⟩, ho1, hd1⟩
    have hL := partsL_le ins
    clear h hl
    go_wp2_with fail
    refine (implReplayParts_any _ _ ins _ (ho1.sl' encInp_len) (by omega)).mono ?_
    rintro e w2 ⟨AG, cG, rfl, hcG, hG2, hb2⟩
    have hd2 := below_after hd1 hb2
    have ho2 := ho1.later hb2
    clear hd1 hb2 ho1
    go_wp2_with fail
    refine (specReplayParts_any _ _ ins _ (ho2.sl' encInp_len) (by omega)).mono ?_
    rintro e w3 ⟨AS, cS, rfl, hcS, hS3, hb3⟩
    have hd3 := below_after hd2 hb3
    have ho3 := ho2.later hb3
    have hG3 := hG2.later hb3
    clear hd2 hb3 ho2 hG2
    go_wp2_with fail
    refine (sameParts_same _ _ _ _ _ _ _ _ (hG3.sl' encPrt_len) (hS3.sl' encPrt_len) (by omega) (by omega)).mono ?_
    rintro e w4 ⟨rfl, hb4⟩
    have hd4 := below_after hd3 hb4
    have ho4 := ho3.later hb4
    have hG4 := hG3.later hb4
    have hS4 := hS3.later hb4
    clear hd3 hb4 ho3 hG3 hS3
    by_cases hpos : 0 < (partsL ins).length
    · obtain ⟨hok, hpe, _⟩ := partsL_pos hpos
      have hin : Hid (inputsOf (partsL ins) = ins) := Lib.hid (by rw [hpe]; exact inputs_partsOf hok)
      have hgo : Hid (goodParts (partsL ins) = true) := Lib.hid (by rw [hpe]; exact good_partsOf hok)
      have hne : ¬ ((partsL ins).length : Int) = 0 := by omega
      have hnb : (((partsL ins).length : Int) == 0) = false := by simpa using hne
      clear hpe
      go_wp2_with fail
      refine (implReplayInputs_any _ _ _ _ (hG4.sl' encPrt_len) (by omega)).mono ?_
      rw [hin.out, hgo.out]
      rintro e w5 ⟨A5, c5, rfl, hc5, ho5, hb5⟩
      have hd5 := below_after hd4 hb5
      have hi5 := ho4.later hb5
      clear hd4 hb5 ho4
      go_wp2_with fail
      refine (sameInputs_same _ _ _ _ _ _ _ _ (ho5.sl' encInp_len) (hi5.sl' encInp_len) (by omega) (by omega)).mono ?_
      rintro e w6 ⟨rfl, hb6⟩
      have hd6 := below_after hd5 hb6
      go_wp2
      go_ret
      exact ⟨rfl, hd6⟩
    · have hne : (((partsL ins).length : Int) == 0) = true := by rw [beq_iff_eq]; omega
      have hne2 : ((partsL ins).length : Int) = 0 := by omega
      go_wp2_with fail
      refine (sameParts_same _ _ _ _ _ _ _ _ (hG4.sl' encPrt_len) (hS4.sl' encPrt_len) (by omega) (by omega)).mono ?_
      rintro e w5 ⟨rfl, hb5⟩
      have hd5 := below_after hd4 hb5
      go_wp2
      go_ret
      exact ⟨rfl, hd5⟩
end Go.Proofs.Ytkendoffknjpiaa
