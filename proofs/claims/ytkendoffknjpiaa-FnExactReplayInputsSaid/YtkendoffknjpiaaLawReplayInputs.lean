/- The law FnExactReplayInputs: its walk. -/
import Derived.Test.YtkendoffknjpiaaRInpI
import Derived.Test.YtkendoffknjpiaaConvI
import Derived.Deep.DeepMust
namespace Go.Proofs.Ytkendoffknjpiaa
open Go.ChangeShapes Go.WideShapes Go.ChangeAt Go.RowKit
theorem eqPartS_same (A A' : Option Addr) (n n' c c' : Nat) (l : List Prt) (w : World) (h : Sl w 2 encPrt A n l) (h' : Sl w 2 encPrt A' n' l) (hn : n ≤ 2097152) (hn' : n' ≤ 2097152) :
    Calls Try.prog 31 #[.slice A n c, .slice A' n' c'] w fun e w' => e = .returned (.bool true) ∧ Below w.heap.size w w' :=
  (eqPartS_any A A' n n' c c' l l w h h' hn hn').mono fun e w' ⟨h1, h2⟩ => ⟨by rw [h1, (eqL_iff eqPrt_iff l l).2 rfl], h2⟩
theorem eqInputS_same' (A A' : Option Addr) (n n' c c' : Nat) (l : List Inp) (w : World) (h : Sl w 3 encInp A n l) (h' : Sl w 3 encInp A' n' l) (hn : n ≤ 2097152) (hn' : n' ≤ 2097152) :
    Calls Try.prog 30 #[.slice A n c, .slice A' n' c'] w fun e w' => e = .returned (.bool true) ∧ Below w.heap.size w w' :=
  (eqInputS_any A A' n n' c c' l l w h h' hn hn').mono fun e w' ⟨h1, h2⟩ => ⟨by rw [h1, (eqL_iff eqInp_iff l l).2 rfl], h2⟩
theorem inputsOf_len (ps : List Prt) : (inputsOf ps).length ≤ 60 := by
  unfold inputsOf
  cases h : goodParts ps with
  | false => simp
  | true => exact outTo_len (goodParts_iff.1 h) (Nat.le_refl _)
set_option maxRecDepth 100000 in
set_option maxHeartbeats 1000000 in
theorem lawReplayInputs (A : Option Addr) (c n : Nat) (l : List Prt) (w : World) (h : Sl w 2 encPrt A n l) (hn : n ≤ 9223372036854775807) :
    Calls Try.prog 6 #[.slice A n c] w fun e w' => e = .returned (.bool true) ∧ Below w.heap.size w w' := by
  obtain rfl := h.len
  by_cases hs : szL l.length 1048576 < 0
  · go_enter Try.func6, Try.ntmps6
    go_wp2_with (go_at_call 26; refine (szPartS_any _ _ _ _ _ (by omega) (by omega) (by omega)).mono ?_; rintro e w' ⟨rfl, rfl⟩)
    go_ret
    exact ⟨rfl, Below.refl _ _⟩
  · have hm := szL_ok hs
    have hL := inputsOf_len l
    go_enter Try.func6, Try.ntmps6
    go_wp2_with fail
    refine (szPartS_any _ _ _ _ _ (by omega) (by omega) (by omega)).mono ?_
    rintro e w' ⟨rfl, rfl⟩
    go_wp2_with fail
    refine (toPartS_any _ _ _ l _ h (by omega)).mono ?_
    rintro e w2 ⟨A2, c2, rfl, hc2, ho2, hd2⟩
    go_wp2_with fail
    refine (specReplayInputs_any _ _ l _ (ho2.sl' encPrt_len) (by omega)).mono ?_
    rintro e w3 ⟨AS, cS, rfl, hcS, hS3, hb3⟩
    have hd3 := below_after hd2 hb3
    have hSr := fun g e => (hS3.lt g e).2
    clear hd2 hb3 ho2
    go_wp2_with fail
    refine (toPartS_any _ _ _ l _ (h.below hd3) (by omega)).mono ?_
    rintro e w4 ⟨A4, c4, rfl, hc4, ho4, hb4⟩
    have hS4 := hS3.later hb4
    have hd4 := below_after hd3 hb4
    have hr1 := ho4.lt
    have hq3 := hd3.size
    have hq4 := hb4.size
    clear hd3 hb4 hS3
    go_wp2_with fail
    refine (implReplayInputs_any _ _ l _ (ho4.sl' encPrt_len) (by omega)).mono ?_
    rintro e w5 ⟨AG, cG, rfl, hcG, hG5, hb5⟩
    have hS5 := hS4.later hb5
    have hd5 := below_after hd4 hb5
    have ho5 := ho4.later hb5
    have hGr : ∀ g, (Value.slice AG (inputsOf l).length cG).ownBlock = some g → w4.heap.size ≤ g := fun g e => (hG5.lt g e).1
    have hG5 := hG5.mono (B' := 0) (Nat.zero_le _)
    clear hd4 ho4 hb5 hS4
    go_wp2_with fail
    refine (eqInputS_same' _ _ _ _ _ _ _ _ (hG5.sl' encInp_len) (hS5.sl' encInp_len) (by omega) (by omega)).mono ?_
    rintro e w6 ⟨rfl, hb6⟩
    have hS6 := hS5.later hb6
    have hG6 := hG5.later hb6
    have hd6 := below_after hd5 hb6
    have ho6 := ho5.later hb6
    clear hS5 hG5 hd5 ho5 hb6
    go_wp2_with fail
    refine (toPartS_any _ _ _ l _ (h.below hd6) (by omega)).mono ?_
    rintro e w7 ⟨A7, c7, rfl, hc7, ho7, hb7⟩
    have hS7 := hS6.later hb7
    have hG7 := hG6.later hb7
    have hd7 := below_after hd6 hb7
    have hx7 := ho6.later hb7
    clear hS6 hG6 hd6 ho6 hb7
    go_wp2_with fail
    refine (eqPartS_same _ _ _ _ _ _ _ _ (hx7.sl' encPrt_len) (ho7.sl' encPrt_len) (by omega) (by omega)).mono ?_
    rintro e w8 ⟨rfl, hb8⟩
    have hS8 := hS7.later hb8
    have hG8 := hG7.later hb8
    have hd8 := below_after hd7 hb8
    have ho8 := hx7.later hb8
    clear hS7 hG7 hd7 hx7 ho7 hb8
    go_wp2_with fail
    refine (markPartS_any _ _ _ _ _ _ _ ho8 (by omega) (by omega) (by omega)).mono ?_
    rintro e w10 ⟨rfl, _, hg10⟩
    have hS10 := hS8.keptN hg10 (by intro g e e1; have := hr1 _ e1; have := hSr _ e; omega)
    have hG10 := hG8.keptN hg10 (by intro g e e1; have := hr1 _ e1; have := hGr _ e; omega)
    have hd10 := hd8.grown hg10 hd8.size (by intro g e; have := hr1 _ e; omega)
    clear hS8 hG8 ho8 hd8 hg10
    go_wp2_with fail
    refine (eqInputS_same' _ _ _ _ _ _ _ _ (hG10.sl' encInp_len) (hS10.sl' encInp_len) (by omega) (by omega)).mono ?_
    rintro e w11 ⟨rfl, hb11⟩
    have hS11 := hS10.later hb11
    have hG11 := hG10.later hb11
    have hd11 := below_after hd10 hb11
    clear hS10 hG10 hd10 hb11
    go_wp2_with fail
    refine (markInputS_any _ _ _ _ _ _ _ hG11 (by omega) (by omega) (by omega)).mono ?_
    rintro e w12 ⟨rfl, hG12, hg12⟩
    have hS12 := hS11.keptN hg12 (by intro g e e1; have := hGr _ e1; have := hSr _ e; omega)
    have hd12 := hd11.grown hg12 hd11.size (by intro g e; have := hGr _ e; omega)
    have hG12' : Sl w12 3 encInp AG (inputsOf l).length (marks mkInp 3 1 (inputsOf l).length) := hG12.sl encInp_len
    clear hS11 hG11 hd11 hg12 hG12
    go_wp2_with fail
    refine (heldInputS_any _ _ _ _ _ hG12' (by omega) (by omega) (by omega)).mono ?_
    rintro e w12 ⟨rfl, rfl⟩
    go_wp2_with fail
    refine (toPartS_any _ _ _ l _ (h.below hd12) (by omega)).mono ?_
    rintro e w13 ⟨A13, c13, rfl, hc13, ho13, hb13⟩
    have hd13 := below_after hd12 hb13
    have hS13 := hS12.later hb13
    have hG13 := hG12'.below hb13
    clear hd12 hS12 hG12'
    go_wp2_with fail
    refine (implReplayInputs_any _ _ l _ (ho13.sl' encPrt_len) (by omega)).mono ?_
    rintro e w14 ⟨AG2, cG2, rfl, hcG2, hK14, hb14⟩
    have hd14 := below_after hd13 hb14
    have hS14 := hS13.later hb14
    have hG14 := hG13.below hb14
    clear hd13 hS13 hG13 ho13 hb13 hb14
    go_wp2_with fail
    refine (eqInputS_same' _ _ _ _ _ _ _ _ (hK14.sl' encInp_len) (hS14.sl' encInp_len) (by omega) (by omega)).mono ?_
    rintro e w15 ⟨rfl, hb15⟩
    have hd15 := below_after hd14 hb15
    have hG15 := hG14.below hb15
    clear hd14 hG14 hS14 hK14 hb15
    go_wp2_with fail
    refine (heldInputS_any _ _ _ _ _ hG15 (by omega) (by omega) (by omega)).mono ?_
    rintro e w15 ⟨rfl, rfl⟩
    go_wp2
    go_ret
    exact ⟨rfl, hd15⟩
end Go.Proofs.Ytkendoffknjpiaa
