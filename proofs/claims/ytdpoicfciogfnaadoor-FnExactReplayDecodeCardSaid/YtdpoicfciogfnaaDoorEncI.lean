/- Texts of replays: ReplayEncode of both. (Seat D) -/
import Derived.Test.YtdpoicfciogfnaaDoorEncT
namespace Go.Proofs.YtdpoicfciogfnaaDoor
open Go.ChangeShapes Go.WideShapes Go.ChangeAt Go.RowKit
set_option maxRecDepth 100000 in
theorem specReplayEncode_any (A A' : Option Addr) (c c' : Nat) (r : Rep) (w : World) (h : Sl w 3 encInp A r.ins.length r.ins) (h' : Sl w 1 encInt A' r.hs.length r.hs) (hn : (r.ins.length : Nat) ≤ 9223372036854775807) (hn' : (r.hs.length : Nat) ≤ 9223372036854775807) :
    Calls Tryd.prog 7 #[.agg #[.int .i64 r.lv, .int .i64 r.pl, .int .i64 r.sc, .slice A r.ins.length c, .slice A' r.hs.length c', .int .i64 r.tag]] w fun e w' => e = .returned (.string (st (encR r))) ∧ Below w.heap.size w w' := by
  cases hv : replayOk r
  · rw [show encR r = [] by unfold encR; rw [hv]; rfl]
    go_enter Tryd.func7, Tryd.ntmps7
    go_wp2_with fail
    refine (specReplayValid_any A A' c c' r _ (h.below (by (with_reducible repeat first | assumption | exact bl0 _ _ | refine blA ?_ _ | (refine blS ?_ ?_ _; (simp <;> omega)) | refine blD ?_ | refine blN ?_ _ | refine blF ?_ ‹_›))) (h'.below (by (with_reducible repeat first | assumption | exact bl0 _ _ | refine blA ?_ _ | (refine blS ?_ ?_ _; (simp <;> omega)) | refine blD ?_ | refine blN ?_ _ | refine blF ?_ ‹_›))) hn hn').mono ?_
    rw [hv]
    rintro e w1 ⟨rfl, hb1⟩
    go_wp2
    go_ret
    exact ⟨rfl, by (with_reducible repeat first | assumption | exact bl0 _ _ | refine blA ?_ _ | (refine blS ?_ ?_ _; (simp <;> omega)) | refine blD ?_ | refine blN ?_ _ | refine blF ?_ ‹_›)⟩
  · rw [show encR r = encT r by unfold encR; rw [hv]; rfl]
    have HV := Lib.hid hv
    go_enter Tryd.func7, Tryd.ntmps7
    go_wp2_with fail
    refine (specReplayValid_any A A' c c' r _ (h.below (by (with_reducible repeat first | assumption | exact bl0 _ _ | refine blA ?_ _ | (refine blS ?_ ?_ _; (simp <;> omega)) | refine blD ?_ | refine blN ?_ _ | refine blF ?_ ‹_›))) (h'.below (by (with_reducible repeat first | assumption | exact bl0 _ _ | refine blA ?_ _ | (refine blS ?_ ?_ _; (simp <;> omega)) | refine blD ?_ | refine blN ?_ _ | refine blF ?_ ‹_›))) hn hn').mono ?_
    rw [hv]
    rintro e w1 ⟨rfl, hb1⟩
    have R1 : Bk w1 w.heap.size 30 #[.int .i64 r.lv, .int .i64 r.pl, .int .i64 r.sc, .slice A r.ins.length c, .slice A' r.hs.length c', .int .i64 r.tag] := Bk.later (by (repeat first | (with_reducible first | assumption | exact kN _ _ _ (by first | assumption | simp <;> omega) | refine kA ?_ _ | refine kD ?_ | refine kW ?_ _ | apply Bk.set' | refine kF ?_ (by simp <;> omega) _) | exact ⟨by with_reducible rfl⟩ | exact ⟨by simp⟩)) hb1
    have d1 : Below w.heap.size w w1 := below_after (by (with_reducible repeat first | assumption | exact bl0 _ _ | refine blA ?_ _ | (refine blS ?_ ?_ _; (simp <;> omega)) | refine blD ?_ | refine blN ?_ _ | refine blF ?_ ‹_›)) hb1
    have y1 := R1.lt
    clear hb1
    obtain ⟨⟨x0, x1, x2, x3, x4, x5⟩, xf⟩ := R1.c6
    go_wp2_with fail
    refine (l23Encode_any A A' c c' r _ HV.out (h.below (by (with_reducible repeat first | assumption | exact bl0 _ _ | refine blA ?_ _ | (refine blS ?_ ?_ _; (simp <;> omega)) | refine blD ?_ | refine blN ?_ _ | refine blF ?_ ‹_›))) (h'.below (by (with_reducible repeat first | assumption | exact bl0 _ _ | refine blA ?_ _ | (refine blS ?_ ?_ _; (simp <;> omega)) | refine blD ?_ | refine blN ?_ _ | refine blF ?_ ‹_›)))).mono ?_
    rintro e w2 ⟨rfl, hb2⟩
    go_wp2
    go_ret
    exact ⟨rfl, by (with_reducible repeat first | assumption | exact bl0 _ _ | refine blA ?_ _ | (refine blS ?_ ?_ _; (simp <;> omega)) | refine blD ?_ | refine blN ?_ _ | refine blF ?_ ‹_›)⟩
set_option maxRecDepth 100000 in
set_option maxHeartbeats 4000000 in
theorem implReplayEncode_any (A A' : Option Addr) (c c' : Nat) (r : Rep) (w : World) (h : Sl w 3 encInp A r.ins.length r.ins) (h' : Sl w 1 encInt A' r.hs.length r.hs) (hn : (r.ins.length : Nat) ≤ 9223372036854775807) (hn' : (r.hs.length : Nat) ≤ 9223372036854775807) (ht : Tab w) :
    Calls Tryd.prog 9 #[.agg #[.int .i64 r.lv, .int .i64 r.pl, .int .i64 r.sc, .slice A r.ins.length c, .slice A' r.hs.length c', .int .i64 r.tag]] w fun e w' => e = .returned (.string (st (encR r))) ∧ Below w.heap.size w w' := by
  have HT := Lib.hid ht
  clear ht
  cases hv : replayOk r
  · rw [show encR r = [] by unfold encR; rw [hv]; rfl]
    go_enter Tryd.func9, Tryd.ntmps9
    go_wp2_with fail
    refine (implReplayValid_any A A' c c' r _ (h.below (by (with_reducible repeat first | assumption | exact bl0 _ _ | refine blA ?_ _ | (refine blS ?_ ?_ _; (simp <;> omega)) | refine blD ?_ | refine blN ?_ _ | refine blF ?_ ‹_›))) (h'.below (by (with_reducible repeat first | assumption | exact bl0 _ _ | refine blA ?_ _ | (refine blS ?_ ?_ _; (simp <;> omega)) | refine blD ?_ | refine blN ?_ _ | refine blF ?_ ‹_›))) hn hn').mono ?_
    rw [hv]
    rintro e w1 ⟨rfl, hb1⟩
    go_wp2
    go_ret
    exact ⟨rfl, by (with_reducible repeat first | assumption | exact bl0 _ _ | refine blA ?_ _ | (refine blS ?_ ?_ _; (simp <;> omega)) | refine blD ?_ | refine blN ?_ _ | refine blF ?_ ‹_›)⟩
  · rw [show encR r = encT r by unfold encR; rw [hv]; rfl]
    obtain ⟨hvi, hn2, hh⟩ := replayOk_bd hv
    have hn3 : r.hs.length ≤ 12 := by omega
    clear hh
    obtain ⟨v1, v2, v3, v4, v5⟩ := enc_63 hv
    have v6 := pairs_63 hvi hn2
    have HPE := Lib.hid (show partsL r.ins = partsOf r.ins by unfold partsL; rw [inputsOkB_iff.2 ⟨hvi, hn2⟩]; rfl)
    obtain ⟨ps, hps⟩ : ∃ ps, partsOf r.ins = ps := ⟨_, rfl⟩
    rw [hps] at v6 HPE
    have V4 := Lib.hid v4
    have V6 := Lib.hid v6
    obtain ⟨X8, hX8⟩ : ∃ X, encT r = X := ⟨_, rfl⟩
    rw [hX8]
    have HEN := Lib.hid (show X8 = lineB wReplay [r.lv, r.pl, r.sc] ++ lineB wInputs (pairsOf ps) ++ lineB wHashes r.hs ++ lineB wTag [r.tag] by rw [← hX8]; unfold encT; rw [hps])
    clear hX8
    have hpl : ps.length ≤ 60 := by
      have := (rparts_bd r.ins r.ins.length).1
      rw [List.take_length] at this
      rw [← hps]; unfold partsOf; rw [List.length_reverse]; omega
    clear v4 v6 hps
    obtain ⟨i0, hi, hz0, hz1, hz2⟩ := info_parts Tryd.infoInt
    go_enter Tryd.func9, Tryd.ntmps9
    go_wp2_with fail
    refine (implReplayValid_any A A' c c' r _ (h.below (by (with_reducible repeat first | assumption | exact bl0 _ _ | refine blA ?_ _ | (refine blS ?_ ?_ _; (simp <;> omega)) | refine blD ?_ | refine blN ?_ _ | refine blF ?_ ‹_›))) (h'.below (by (with_reducible repeat first | assumption | exact bl0 _ _ | refine blA ?_ _ | (refine blS ?_ ?_ _; (simp <;> omega)) | refine blD ?_ | refine blN ?_ _ | refine blF ?_ ‹_›))) hn hn').mono ?_
    rw [hv]
    rintro e w1 ⟨rfl, hb1⟩
    have R1 : Bk w1 w.heap.size 30 #[.int .i64 r.lv, .int .i64 r.pl, .int .i64 r.sc, .slice A r.ins.length c, .slice A' r.hs.length c', .int .i64 r.tag] := Bk.later (by (repeat first | (with_reducible first | assumption | exact kN _ _ _ (by first | assumption | simp <;> omega) | refine kA ?_ _ | refine kD ?_ | refine kW ?_ _ | apply Bk.set' | refine kF ?_ (by simp <;> omega) _) | exact ⟨by with_reducible rfl⟩ | exact ⟨by simp⟩)) hb1
    have d1 : Below w.heap.size w w1 := below_after (by (with_reducible repeat first | assumption | exact bl0 _ _ | refine blA ?_ _ | (refine blS ?_ ?_ _; (simp <;> omega)) | refine blD ?_ | refine blN ?_ _ | refine blF ?_ ‹_›)) hb1
    have y1 := R1.lt
    clear hb1
    obtain ⟨⟨x0, x1, x2, x3, x4, x5⟩, xf⟩ := R1.c6
    go_wp2_with fail
    refine (implReplayParts_any A c r.ins _ (h.below (by (with_reducible repeat first | assumption | exact bl0 _ _ | refine blA ?_ _ | (refine blS ?_ ?_ _; (simp <;> omega)) | refine blD ?_ | refine blN ?_ _ | refine blF ?_ ‹_›))) hn).mono ?_
    rw [HPE.out]
    rintro e w2 ⟨A1, c1, rfl, hc1, O1, hb2⟩
    have R2 : Bk w2 w.heap.size 30 #[.int .i64 r.lv, .int .i64 r.pl, .int .i64 r.sc, .slice A r.ins.length c, .slice A' r.hs.length c', .int .i64 r.tag] := Bk.later (by (repeat first | (with_reducible first | assumption | exact kN _ _ _ (by first | assumption | simp <;> omega) | refine kA ?_ _ | refine kD ?_ | refine kW ?_ _ | apply Bk.set' | refine kF ?_ (by simp <;> omega) _) | exact ⟨by with_reducible rfl⟩ | exact ⟨by simp⟩)) hb2
    have d2 : Below w.heap.size w w2 := below_after (by (with_reducible repeat first | assumption | exact bl0 _ _ | refine blA ?_ _ | (refine blS ?_ ?_ _; (simp <;> omega)) | refine blD ?_ | refine blN ?_ _ | refine blF ?_ ‹_›)) hb2
    have S1 := O1.sl' encPrt_len
    have y2 := R2.lt
    clear hb2 O1 R1 d1 y1 x0 x1 x2 x3 x4 x5 xf
    go_wp2
    go_loopw [3, 13] (fun v i wr => ∃ k : Nat, k ≤ ps.length ∧ i = .int .i64 k ∧ Own wr w2.heap.size 3 1 encInt v (pairsOf (ps.take k)) ∧ Below w2.heap.size w2 wr) (fun _ i _ => ps.length - (intOf i).toNat)
    case atStart => exact ⟨0, Nat.zero_le _, rfl, Own.none_, Below.refl _ _⟩
    case round =>
      obtain ⟨k, hk, rfl, ho, hb⟩ := hrel
      have hpk : (pairsOf (ps.take k)).length = 2 * k := by rw [pairsOf_len, List.length_take, Nat.min_eq_left hk]
      have yb := hb.size
      by_cases hlt : k < ps.length
      · obtain ⟨b, off, p, rfl, hbl, hp, hc⟩ := (S1.below hb).at_ hlt
        have q0 : wr.cell? ⟨b, off + k * 2, none⟩ = some (.int .i64 p.c) := hc 0 _ rfl
        have q1 : wr.cell? ⟨b, off + k * 2 + 1, none⟩ = some (.int .i64 p.m) := hc 1 _ rfl
        have HP := Lib.hid (pairsOf_snoc hp)
        have HL := Lib.hid hpk
        have HX := Lib.hid ho.lt
        clear hc hp hpk
        go_wp2_with (at_builtin; refine wp_appS rfl _ _ 23 rfl w2.heap.size 3 i0 (.int .i64 0) 1 8 Tryd.underlying23 hi hz0 hz1 hz2 rfl (by decide) encInt_len one_int _ (pairsOf (ps.take k)) [p.c, p.m] rfl ((ho.alloc _).alloc _) _ 2 2 rfl (sl_two _ _ _ _ _ (by simp)) (by intro e; cases e) (by rw [HL.out]; unfold maxLen; omega) (by rw [HL.out]; omega) (by simp; omega) ?_; intro v3 w3 ho3 hg3; rw [← HP.out] at ho3; have hB3 : Below w2.heap.size w2 w3 := Below.grown (below_alloc (below_alloc hb _) _) hg3 (by simp; omega) (fun g e => (HX.out g e).1))
        go_roundw
        case rel => exact ⟨k + 1, by omega, by go_num, ho3, hB3⟩
        case measure => simp [intOf]; omega
      · obtain rfl : k = ps.length := by omega
        rw [List.take_length] at ho
        have d3 : Below w.heap.size w wr := below_after d2 hb
        have hnl : ¬ ((ps.length : Int) < (ps.length : Int)) := by omega
        have R3 := R2.later hb
        obtain ⟨L2, hL2⟩ : ∃ L, pairsOf ps = L := ⟨_, rfl⟩
        rw [hL2] at ho
        obtain ⟨A2, c2, rfl, hc2, _⟩ := ho.form
        have S2 := ho.sl' encInt_len
        have S3 : Sl wr 1 encInt A' r.hs.length r.hs := h'.below d3
        have zz := R3.lt
        have TW := Lib.hid (HT.out.below d3)
        obtain ⟨M1, hM1⟩ : ∃ M, lineB wReplay [r.lv, r.pl, r.sc] = M := ⟨_, rfl⟩
        obtain ⟨M2, hM2⟩ : ∃ M, lineB wInputs (pairsOf ps) = M := ⟨_, rfl⟩
        obtain ⟨M3, hM3⟩ : ∃ M, lineB wHashes r.hs = M := ⟨_, rfl⟩
        obtain ⟨M4, hM4⟩ : ∃ M, lineB wTag [r.tag] = M := ⟨_, rfl⟩
        have l2 : L2.length ≤ 120 := by rw [← hL2, pairsOf_len]; omega
        have w1v : Hid (∀ y ∈ [r.lv, r.pl, r.sc], int63 y) := Lib.hid (fun y hy => by simp only [List.mem_cons, List.not_mem_nil, or_false] at hy; rcases hy with rfl | rfl | rfl <;> assumption)
        have w4v : Hid (∀ y ∈ [r.tag], int63 y) := Lib.hid (fun y hy => by simp only [List.mem_cons, List.not_mem_nil, or_false] at hy; rcases hy with rfl; assumption)
        have l1 : M1.length ≤ 100 := by rw [← hM1]; have := numsB_len _ w1v.out; simp [lineB, wReplay] at this ⊢; omega
        have l22 : M2.length ≤ 2700 := by rw [← hM2]; have := numsB_len _ V6.out; rw [hL2] at this ⊢; simp [lineB, wInputs]; omega
        have l3 : M3.length ≤ 300 := by rw [← hM3]; have := numsB_len _ V4.out; simp [lineB, wHashes]; omega
        have l4 : M4.length ≤ 100 := by rw [← hM4]; have := numsB_len _ w4v.out; simp [lineB, wTag] at this ⊢; omega
        have HEN2 := HEN.out
        rw [hM1, hM2, hM3, hM4] at HEN2
        rw [hL2] at hM2
        have V62 := V6.out
        rw [hL2] at V62
        have V63 := Lib.hid V62
        have H1 := Lib.hid hM1
        have H2 := Lib.hid hM2
        have H3 := Lib.hid hM3
        have H4 := Lib.hid hM4
        have e1 : ∀ W, (Op.stringOp .add (st M1) (st M2)).run Tryd.prog W = .ok (.string (st (M1 ++ M2))) W := fun W => add_st W (by omega) rfl
        generalize hY1 : M1 ++ M2 = Y1 at e1 HEN2
        have y1l : Y1.length ≤ 2800 := by rw [← hY1, List.length_append]; omega
        have e2 : ∀ W, (Op.stringOp .add (st Y1) (st M3)).run Tryd.prog W = .ok (.string (st (Y1 ++ M3))) W := fun W => add_st W (by omega) rfl
        generalize hY2 : Y1 ++ M3 = Y2 at e2 HEN2
        have y2l : Y2.length ≤ 3100 := by rw [← hY2, List.length_append]; omega
        have e3 : ∀ W, (Op.stringOp .add (st Y2) (st M4)).run Tryd.prog W = .ok (.string (st X8)) W := fun W => add_st W (by omega) HEN2.symm
        clear hM1 hM2 hM3 hM4 hL2 HEN2 V62 hY1 hY2 HEN
        obtain ⟨⟨x0, x1, x2, x3, x4, x5⟩, xf⟩ := R3.c6
        go_wp2
        go_region_held3 (fun w' => (w'.cell? ⟨w.heap.size, 0, none⟩ = some (.int .i64 r.lv) ∧ w'.cell? ⟨w.heap.size, 1, none⟩ = some (.int .i64 r.pl) ∧ w'.cell? ⟨w.heap.size, 2, none⟩ = some (.int .i64 r.sc) ∧ w'.cell? ⟨w.heap.size, 3, none⟩ = some (.slice A r.ins.length c) ∧ w'.cell? ⟨w.heap.size, 4, none⟩ = some (.slice A' r.hs.length c') ∧ w'.cell? ⟨w.heap.size, 5, none⟩ = some (.int .i64 r.tag)))
          (first | (with_reducible exact keepSix R3 (by (with_reducible repeat first | assumption | exact bl0 _ _ | refine blA ?_ _ | (refine blS ?_ ?_ _; (simp <;> omega)) | refine blD ?_ | refine blN ?_ _ | refine blF ?_ ‹_›))))
          (first
          | (go_at_call 24; (fail_if_success clear hb7); refine (numbersLine_any wReplay _ 3 [r.lv, r.pl, r.sc] _ (by (repeat (first | (with_reducible assumption) | exact sl_three _ _ _ _ _ _ (by first | rfl | (simp; done)) | (with_reducible refine sl_drw ?_) | (with_reducible refine sl_all ?_ _) | (with_reducible refine Sl.below ?_ ‹_›)))) (by simp) (by simp [wReplay]) w1v.out (TW.out.below (by (with_reducible repeat first | assumption | exact bl0 _ _ | refine blA ?_ _ | (refine blS ?_ ?_ _; (simp <;> omega)) | refine blD ?_ | refine blN ?_ _ | refine blF ?_ ‹_›)))).mono ?_; rw [H1.out]; rintro e u7 ⟨rfl, hb7⟩)
          | (go_at_call 24; (fail_if_success clear hb8); refine (numbersLine_any wInputs A2 c2 L2 _ (S2.below (by (with_reducible repeat first | assumption | exact bl0 _ _ | refine blA ?_ _ | (refine blS ?_ ?_ _; (simp <;> omega)) | refine blD ?_ | refine blN ?_ _ | refine blF ?_ ‹_›))) (by omega) (by simp [wInputs]) V63.out (TW.out.below (by (with_reducible repeat first | assumption | exact bl0 _ _ | refine blA ?_ _ | (refine blS ?_ ?_ _; (simp <;> omega)) | refine blD ?_ | refine blN ?_ _ | refine blF ?_ ‹_›)))).mono ?_; rw [H2.out]; rintro e u8 ⟨rfl, hb8⟩)
          | (go_at_call 24; (fail_if_success clear hb9); refine (numbersLine_any wHashes A' c' r.hs _ (S3.below (by (with_reducible repeat first | assumption | exact bl0 _ _ | refine blA ?_ _ | (refine blS ?_ ?_ _; (simp <;> omega)) | refine blD ?_ | refine blN ?_ _ | refine blF ?_ ‹_›))) (by omega) (by simp [wHashes]) V4.out (TW.out.below (by (with_reducible repeat first | assumption | exact bl0 _ _ | refine blA ?_ _ | (refine blS ?_ ?_ _; (simp <;> omega)) | refine blD ?_ | refine blN ?_ _ | refine blF ?_ ‹_›)))).mono ?_; rw [H3.out]; rintro e u9 ⟨rfl, hb9⟩)
          | (go_at_call 24; (fail_if_success clear hb10); refine (numbersLine_any wTag _ 1 [r.tag] _ (by (repeat (first | (with_reducible assumption) | exact sl_one1 _ _ _ _ (by first | rfl | (simp; done)) | (with_reducible refine sl_drw ?_) | (with_reducible refine sl_all ?_ _) | (with_reducible refine Sl.below ?_ ‹_›)))) (by simp) (by simp [wTag]) w4v.out (TW.out.below (by (with_reducible repeat first | assumption | exact bl0 _ _ | refine blA ?_ _ | (refine blS ?_ ?_ _; (simp <;> omega)) | refine blD ?_ | refine blN ?_ _ | refine blF ?_ ‹_›)))).mono ?_; rw [H4.out]; rintro e u10 ⟨rfl, hb10⟩)
          | fail "no arm")
        all_goals
          have D10 : Below wr.heap.size wr u10 := by (with_reducible repeat first | assumption | exact bl0 _ _ | refine blA ?_ _ | (refine blS ?_ ?_ _; (simp <;> omega)) | refine blD ?_ | refine blN ?_ _ | refine blF ?_ ‹_›)
          have D11 := below_after d3 D10
          go_wp2
          go_ret
          exact ⟨rfl, D11⟩
end Go.Proofs.YtdpoicfciogfnaaDoor
