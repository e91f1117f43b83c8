/- The law FnReplayHashes: its walk. -/
import Derived.Test.YtkendoffknjpiaaDrI
namespace Go.Proofs.Ytkendoffknjpiaa
open Go.ChangeShapes Go.WideShapes Go.ChangeAt Go.RowKit
theorem hashes_more {lv pl sc tag : Int} {ins : List Inp} {hs : List Int} (h : replayOk ⟨lv, pl, sc, ins, hs, tag⟩ = true) (x : Int) : replayOk ⟨lv, pl, sc, ins, hs ++ [x], tag⟩ = false := by
  have hl := (replayOk_bd h).2.2
  simp only at hl
  have : lenB ⟨lv, pl, sc, ins, hs ++ [x], tag⟩ = false := by
    unfold lenB
    simp
    omega
  unfold replayOk
  rw [this]
  simp
set_option maxRecDepth 100000 in
set_option maxHeartbeats 2000000 in
theorem lawReplayHashes (A : Option Addr) (n c : Nat) (l : List Int) (w : World) (h : Sl w 1 encU8 A n l) (hl : ∀ x ∈ l, 0 ≤ x ∧ x < 256) (hn : n ≤ 9223372036854775807) (hnc : n ≤ c) (hc : c ≤ 9223372036854775807) :
    Calls Try.prog 13 #[.slice A n c] w fun e w' => e = .returned (.bool true) ∧ Below w.heap.size w w' := by
  obtain ⟨j0, hj, yz0, yz1, yz2⟩ := info_parts Try.infoInt
  by_cases h1 : 1048576 < (n : Int)
  · go_enter Try.func13, Try.ntmps13
    go_wp2
    go_ret
    exact ⟨rfl, Below.refl _ _⟩
  · go_enter Try.func13, Try.ntmps13
    go_wp2_with fail
    refine (drawReplayValid_any A n c l _ h hl hn hnc hc).mono ?_
    rintro e w1 ⟨r, A1, c1, A2, c2, rfl, hL, hP1, hO1, hd1⟩
    obtain ⟨lv, pl, sc, ins, hs, tag⟩ := r
    have hni := hL.nin
    have hnh := hL.nhs
    simp only at hni hnh hP1 hO1
    clear h hl hL
    go_wp2_with fail
    refine (implReplayValid_any _ _ _ _ ⟨lv, pl, sc, ins, hs, tag⟩ _ ((hP1.alloc _).sl' encInp_len) ((hO1.alloc _).sl' encInt_len) (by simp only; omega) (by simp only; omega)).mono ?_
    rintro e w2 ⟨rfl, hb2⟩
    have B2 : Bk w2 w1.heap.size 35 #[.int .i64 lv, .int .i64 pl, .int .i64 sc, .slice A1 ins.length c1, .slice A2 hs.length c2, .int .i64 tag] := (Bk.new w1 _ _ rfl).later hb2
    have P2 := (hP1.alloc (.cells #[.int .i64 lv, .int .i64 pl, .int .i64 sc, .slice A1 ins.length c1, .slice A2 hs.length c2, .int .i64 tag] 35)).later hb2
    have O2 := (hO1.alloc (.cells #[.int .i64 lv, .int .i64 pl, .int .i64 sc, .slice A1 ins.length c1, .slice A2 hs.length c2, .int .i64 tag] 35)).later hb2
    have hd2 := below_after (below_alloc hd1 _) hb2
    have hz1 := hd1.size
    clear hb2 hP1 hO1 hd1
    have z2 := B2.lt
    obtain ⟨⟨b0, b1, b2, b3, b4, b5⟩, bf⟩ := B2.c6
    go_wp2_with fail
    refine (specReplayValid_any _ _ _ _ ⟨lv, pl, sc, ins, hs, tag⟩ _ (P2.sl' encInp_len) (O2.sl' encInt_len) (by simp only; omega) (by simp only; omega)).mono ?_
    rintro e w3 ⟨rfl, hb3⟩
    have B3 := B2.later hb3
    have P3 := P2.later hb3
    have O3 := O2.later hb3
    have hd3 := below_after hd2 hb3
    clear B2 P2 O2 hd2 hb3 b0 b1 b2 b3 b4 b5 bf z2
    have z3 := B3.lt
    have hz3 := hd3.size
    obtain ⟨⟨b0, b1, b2, b3, b4, b5⟩, bf⟩ := B3.c6
    cases hv : replayOk ⟨lv, pl, sc, ins, hs, tag⟩
    · go_wp2
      go_ret
      exact ⟨rfl, hd3⟩
    · have hmore := Lib.hid (hashes_more hv 1)
      have hlb := (replayOk_bd hv).2.2
      simp only at hlb
      have hlb2 : (hs.length : Int) = (ins.length : Int) / 5 := by omega
      have HLB := Lib.hid hlb2
      clear hlb hlb2 hv
      obtain ⟨hs2, hhs2⟩ : ∃ y, hs ++ [(1 : Int)] = y := ⟨_, rfl⟩
      have hl2 : hs2.length ≤ 15 := by rw [← hhs2]; simp; omega
      rw [hhs2] at hmore
      have HS2 := Lib.hid hhs2
      have hsne := P3.ne2 O3 (by decide)
      have hPb := fun g e => (P3.lt g e).2
      have hd3b : Below w.heap.size w w3 := hd3
      clear hhs2
      go_wp2_with (first
        | (at_builtin; refine wp_appL rfl (.tmp 27) (.tmp 29) _ rfl (w3.heap.size + 1) 3 j0 (.int .i64 0) 1 8 Try.underlying28 hj yz0 yz1 yz2 rfl (by decide) encInt_len one_int _ [] hs rfl (own_nil_at _ _ _ _ (by simp) (by simp)) A2 hs.length c2 rfl (((O3.sl' encInt_len).below (below_alloc (below_alloc (Below.refl _ _) _) _))) O3.none_cap (by have e0 : ([] : List Int).length = 0 := rfl; unfold maxLen; omega) (by have e0 : ([] : List Int).length = 0 := rfl; omega) (by simp) ?_; intro v5 w5 O5 hg5 hl5; rw [List.nil_append] at O5; obtain ⟨A5, c5, rfl, hc5, _⟩ := O5.form; have hd5 : Below w.heap.size w w5 := Below.grown (by (repeat (first | (with_reducible assumption) | (with_reducible exact Below.refl _ _) | (with_reducible refine below_alloc ?_ _) | (with_reducible refine below_setCell ?_ ?_ _; (simp <;> omega)) | (with_reducible refine below_drew ?_) | (with_reducible refine below_drewN ?_ _) | (with_reducible refine below_after ?_ (by assumption))))) hg5 (by simp; omega) (fun g e => by cases e; (try dsimp only); omega); have B5 : Bk w5 w1.heap.size 35 #[.int .i64 lv, .int .i64 pl, .int .i64 sc, .slice A1 ins.length c1, .slice A2 hs.length c2, .int .i64 tag] := Bk.grown ((B3.alloc _).alloc _) hg5 (by intro e; injection e with e <;> first | omega | (simp at e <;> omega)); have X5 : Bk w5 w3.heap.size 35 #[.int .i64 lv, .int .i64 pl, .int .i64 sc, .slice A1 ins.length c1, .slice A2 hs.length c2, .int .i64 tag] := Bk.grown (Bk.alloc (Bk.new w3 _ _ rfl) _) hg5 (by intro e; injection e with e <;> first | omega | (simp at e <;> omega)); have P5 := ((P3.alloc (.cells #[.int .i64 lv, .int .i64 pl, .int .i64 sc, .slice A1 ins.length c1, .slice A2 hs.length c2, .int .i64 tag] 35)).alloc (.cells #[] 3)).keptN hg5 (fun g e e2 => by have := hPb g e; injection e2 with e2 <;> first | omega | (simp at e2 <;> omega)); have z5 := B5.lt; have y5 := X5.lt; obtain ⟨⟨x0, x1, x2, x3, x4, x5⟩, xf⟩ := X5.c6)
        | (at_builtin; refine wp_appL rfl (.tmp 30) (.tmp 31) _ rfl (w3.heap.size + 1) 3 j0 (.int .i64 0) 1 8 Try.underlying28 hj yz0 yz1 yz2 rfl (by decide) encInt_len one_int _ hs [1] rfl (O5.alloc _) _ 1 1 rfl (Sl.one _ (1 : Int) _ _ rfl) (by intro e; cases e) (by unfold maxLen; omega) (by omega) (by simp; omega) ?_; intro v6 w6 O6 hg6 hl6; rw [HS2.out] at O6; obtain ⟨A6, c6, rfl, hc6, _⟩ := O6.form; have hd6 : Below w.heap.size w w6 := (below_alloc hd5 _).grown hg6 (by have := hd5.size; simp; omega) (fun g e => by have := (O5.lt g e).1; omega); have B6 := (B5.alloc (.cells #[.int .i64 1] 3)).grown hg6 (by intro e; have := (O5.lt _ e.symm).1; omega); have X6 := (X5.alloc (.cells #[.int .i64 1] 3)).grown hg6 (by intro e; have := (O5.lt _ e.symm).1; omega); have P6 := (P5.alloc (.cells #[.int .i64 1] 3)).keptN hg6 (fun g e e2 => by have := (O5.lt g e2).1; have := hPb g e; omega); have z6 := B6.lt; have y6 := X6.lt; obtain ⟨⟨d0, d1, d2, d3, d4, d5⟩, df⟩ := B6.c6; obtain ⟨⟨y0, y1, y2, y3, y4, y5⟩, yf⟩ := X6.c6)
        | (go_at_call 24; refine (implReplayValid_any _ _ _ _ ⟨lv, pl, sc, ins, hs2, tag⟩ _ ?_ ?_ (by simp only; omega) (by simp only; omega)).mono ?_; (exact ((P6.fars (p := ⟨w3.heap.size, 4, none⟩) (fun g e => by have := hPb g e; show g ≠ w3.heap.size; omega) _).sl' encInp_len)); (exact ((O6.fars (p := ⟨w3.heap.size, 4, none⟩) (fun g e => by have := (O6.lt g e).1; show g ≠ w3.heap.size; omega) _).sl' encInt_len)); rw [hmore.out]; rintro e w9 ⟨rfl, hb9⟩))
      go_ret
      exact ⟨rfl, by (repeat (first | (with_reducible assumption) | (with_reducible exact Below.refl _ _) | (with_reducible refine below_alloc ?_ _) | (with_reducible refine below_setCell ?_ ?_ _; (simp <;> omega)) | (with_reducible refine below_drew ?_) | (with_reducible refine below_drewN ?_ _) | (with_reducible refine below_after ?_ (by assumption))))⟩
end Go.Proofs.Ytkendoffknjpiaa
