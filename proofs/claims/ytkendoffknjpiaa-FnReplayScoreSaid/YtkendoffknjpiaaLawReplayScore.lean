/- The law FnReplayScore: its walk. -/
import Derived.Test.YtkendoffknjpiaaDrI
import Derived.Test.YtkendoffknjpiaaSame
import Derived.Test.YtkendoffknjpiaaRepL
namespace Go.Proofs.Ytkendoffknjpiaa
open Go.ChangeShapes Go.WideShapes Go.ChangeAt Go.RowKit
theorem sameInts_same (A A' : Option Addr) (n n' c c' : Nat) (l : List Int) (w : World) (h : Sl w 1 encInt A n l) (h' : Sl w 1 encInt A' n' l) (hn : n ≤ 2097152) (hn' : n' ≤ 2097152) :
    Calls Try.prog 53 #[.slice A n c, .slice A' n' c'] w fun e w' => e = .returned (.bool true) ∧ Below w.heap.size w w' :=
  (sameInts_any A A' n n' c c' l l w h h' hn hn').mono fun e w' ⟨h1, h2⟩ => ⟨by rw [h1, (eqL_iff eqInt_iff l l).2 rfl], h2⟩
theorem repL_le (r : Rep) : (repL r).length ≤ 80 := by
  unfold repL
  cases h : replayOk r with
  | false => simp
  | true =>
    have := replayOk_bd h
    have h2 := repList_len r
    simp only [if_true]
    omega
theorem tag_apart {lv pl sc tag t : Int} {ins : List Inp} {hs : List Int} (h : 0 < (repL ⟨lv, pl, sc, ins, hs, tag⟩).length) (ht : 0 ≤ t ∧ t ≤ 1000002) : repL ⟨lv, pl, sc, ins, hs, t⟩ = repL ⟨lv, pl, sc, ins, hs, tag⟩ := by
  unfold repL at *
  cases hv : replayOk ⟨lv, pl, sc, ins, hs, tag⟩ with
  | false => rw [hv] at h; simp at h
  | true =>
    have hv2 : replayOk ⟨lv, pl, sc, ins, hs, t⟩ = true := by
      simp only [replayOk, Bool.and_eq_true, lenB] at hv ⊢
      exact ⟨hv.1, hv.2.1, hv.2.2.1, hv.2.2.2.1, hv.2.2.2.2.1, inR_iff.2 ht, hv.2.2.2.2.2.2⟩
    rw [hv2]
    rfl
set_option maxRecDepth 100000 in
set_option maxHeartbeats 2000000 in
theorem lawReplayScore (A B : Option Addr) (n n' c c' : Nat) (l : List Int) (w : World) (h : Sl w 1 encU8 A n l) (hl : ∀ x ∈ l, 0 ≤ x ∧ x < 256) (hn : n ≤ 9223372036854775807) (hnc : n ≤ c) (hc : c ≤ 9223372036854775807) (hn' : n' ≤ 9223372036854775807) :
    Calls Try.prog 17 #[.slice A n c, .slice B n' c'] w fun e w' => e = .returned (.bool true) ∧ Below w.heap.size w w' := by
  by_cases h1 : 1048576 < (n : Int)
  · go_enter Try.func17, Try.ntmps17
    go_wp2
    go_ret
    exact ⟨rfl, Below.refl _ _⟩
  by_cases h2 : 1048576 < (n' : Int)
  · go_enter Try.func17, Try.ntmps17
    go_wp2
    go_ret
    exact ⟨rfl, Below.refl _ _⟩
  · go_enter Try.func17, Try.ntmps17
    go_wp2_with fail
    refine (drawReplayList_any A n c l _ h hl hn hnc hc).mono ?_
    rintro e w1 ⟨r, A1, c1, A2, c2, rfl, hL, hP1, hO1, hd1⟩
    obtain ⟨lv, pl, sc, ins, hs, tag⟩ := r
    have hni := hL.nin
    have hnh := hL.nhs
    have hll := repL_le ⟨lv, pl, sc, ins, hs, tag⟩
    simp only at hni hnh hP1 hO1
    clear h hl hL
    go_wp2_with fail
    refine (implReplayList_any _ _ _ _ ⟨lv, pl, sc, ins, hs, tag⟩ _ ((hP1.alloc _).sl' encInp_len) ((hO1.alloc _).sl' encInt_len) (by simp only; omega) (by simp only; omega) hO1.none_cap).mono ?_
    rintro e w2 ⟨A3, c3, rfl, hc3, hG2, hb2⟩
    have B2 : Bk w2 w1.heap.size 35 #[.int .i64 lv, .int .i64 pl, .int .i64 sc, .slice A1 ins.length c1, .slice A2 hs.length c2, .int .i64 tag] := (Bk.new w1 _ _ rfl).later hb2
    have P2 := (hP1.alloc (.cells #[.int .i64 lv, .int .i64 pl, .int .i64 sc, .slice A1 ins.length c1, .slice A2 hs.length c2, .int .i64 tag] 35)).later hb2
    have O2 := (hO1.alloc (.cells #[.int .i64 lv, .int .i64 pl, .int .i64 sc, .slice A1 ins.length c1, .slice A2 hs.length c2, .int .i64 tag] 35)).later hb2
    have hd2 := below_after (below_alloc hd1 _) hb2
    have hz1 := hd1.size
    clear hb2 hP1 hO1 hd1
    have z2 := B2.lt
    obtain ⟨⟨b0, b1, b2, b3, b4, b5⟩, bf⟩ := B2.c6
    go_wp2_with fail
    refine (specReplayList_any _ _ _ _ ⟨lv, pl, sc, ins, hs, tag⟩ _ (P2.sl' encInp_len) (O2.sl' encInt_len) (by simp only; omega) (by simp only; omega) O2.none_cap).mono ?_
    rintro e w3 ⟨A4, c4, rfl, hc4, hS3, hb3⟩
    have B3 := B2.later hb3
    have P3 := P2.later hb3
    have O3 := O2.later hb3
    have G3 := hG2.later hb3
    have hd3 := below_after hd2 hb3
    clear B2 P2 O2 hG2 hd2 hb3 b0 b1 b2 b3 b4 b5 bf z2
    go_wp2_with fail
    refine (sameInts_same _ _ _ _ _ _ _ _ (G3.sl' encInt_len) (hS3.sl' encInt_len) (by omega) (by omega)).mono ?_
    rintro e w4 ⟨rfl, hb4⟩
    have B4 := B3.later hb4
    have P4 := P3.later hb4
    have O4 := O3.later hb4
    have G4 := G3.later hb4
    have S4 := hS3.later hb4
    have hd4 := below_after hd3 hb4
    clear B3 P3 O3 G3 hS3 hd3 hb4
    have z4 := B4.lt
    have hz4 := hd4.size
    obtain ⟨⟨b0, b1, b2, b3, b4, b5⟩, bf⟩ := B4.c6
    by_cases hpos : 0 < (repL ⟨lv, pl, sc, ins, hs, tag⟩).length
    · have hne : ¬ ((repL ⟨lv, pl, sc, ins, hs, tag⟩).length : Int) = 0 := by omega
      have hnb : (((repL ⟨lv, pl, sc, ins, hs, tag⟩).length : Int) == 0) = false := by simpa using hne
      obtain ⟨t, ht⟩ : ∃ t : Int, (n' : Int) % 1000003 = t := ⟨_, rfl⟩
      have htb : 0 ≤ t ∧ t ≤ 1000002 := by omega
      have hsame := Lib.hid (tag_apart hpos htb)
      have hPb := fun g e => (P4.lt g e).2
      have hOb := fun g e => (O4.lt g e).2
      have hGb := fun g e => (G4.lt g e).2
      generalize repL ⟨lv, pl, sc, ins, hs, tag⟩ = L at *
      go_wp2_with fail
      refine (implReplayList_any _ _ _ _ ⟨lv, pl, sc, ins, hs, t⟩ _ ((P4.alloc _).sl' encInp_len) ((O4.alloc _).sl' encInt_len) (by simp only; omega) (by simp only; omega) O4.none_cap).mono ?_
      rw [hsame.out]
      rintro e w5 ⟨A5, c5, rfl, hc5, hX5, hb5⟩
      have G5 := (G4.alloc (.cells #[.int .i64 lv, .int .i64 pl, .int .i64 sc, .slice A1 ins.length c1, .slice A2 hs.length c2, .int .i64 t] 35)).later hb5
      have hd5 := below_after (below_alloc hd4 _) hb5
      clear G4 hb5 hd4
      go_wp2_with fail
      refine (sameInts_same _ _ _ _ _ _ _ _ (hX5.sl' encInt_len) (G5.sl' encInt_len) (by omega) (by omega)).mono ?_
      rintro e w6 ⟨rfl, hb6⟩
      have hd6 := below_after hd5 hb6
      go_wp2
      go_ret
      exact ⟨rfl, hd6⟩
    · have hne2 : ((repL ⟨lv, pl, sc, ins, hs, tag⟩).length : Int) = 0 := by omega
      have hne : (((repL ⟨lv, pl, sc, ins, hs, tag⟩).length : Int) == 0) = true := by rw [beq_iff_eq]; omega
      go_wp2_with fail
      refine (sameInts_same _ _ _ _ _ _ _ _ (G4.sl' encInt_len) (S4.sl' encInt_len) (by omega) (by omega)).mono ?_
      rintro e w5 ⟨rfl, hb5⟩
      have hd5 := below_after hd4 hb5
      go_wp2
      go_ret
      exact ⟨rfl, hd5⟩
end Go.Proofs.Ytkendoffknjpiaa
