/- The law FnExactReplayDecode: its walk. Printed by gen/lawdec.py. (Seat D) -/
import Derived.Test.YtdpoicfciogfnaaDoorDecY
import Derived.Test.YtdpoicfciogfnaaDoorConvW
import Derived.Deep.RegionHeld3
import Derived.Deep.DeepMust
namespace Go.Proofs.YtdpoicfciogfnaaDoor
open Go.ChangeShapes Go.WideShapes Go.ChangeAt Go.RowKit
theorem decS_len (E : List UInt8) : ((decS E).getD zeroRep).ins.length ≤ 60 ∧ ((decS E).getD zeroRep).hs.length ≤ 12 := by
  cases h : decS E with
  | none => exact ⟨by decide, by decide⟩
  | some r =>
    obtain ⟨h1, _⟩ := decS_some h
    obtain ⟨_, h2, h3⟩ := replayOk_bd h1
    simp only [Option.getD_some]
    omega
set_option maxRecDepth 100000 in
set_option maxHeartbeats 8000000 in
theorem lawReplayDecode (E : List UInt8) (w : World) (hV : Vars4 w) (hn : (E.length : Nat) ≤ 9223372036854775807) :
    Calls Tryd.prog 5 #[.string (st E)] w fun e w' => e = .returned (.bool (true)) ∧ Below w.heap.size w w' := by
  have HV := Lib.hid hV
  clear hV
  have hsz : (st E).size = E.length := st_size E
  by_cases hE : E.length ≤ 1048576
  · have hle : ¬ ((E.length : Int) > 1048576) := by omega
    have hrl := decS_len E
    obtain ⟨rp, hrp⟩ : ∃ rp, (decS E).getD zeroRep = rp := ⟨_, rfl⟩
    obtain ⟨bo, hbo⟩ : ∃ bo, (decS E).isSome = bo := ⟨_, rfl⟩
    rw [hrp] at hrl
    obtain ⟨hr1, hr2⟩ := hrl
    have HRP := Lib.hid hrp
    have HBO := Lib.hid hbo
    clear hrp hbo
    go_enter Tryd.func5, Tryd.ntmps5
    go_wp2_with fail
    refine (specReplayDecode_any E _ hE).mono ?_
    rw [HRP.out, HBO.out]
    rintro e w1 ⟨AS, cS, AS', cS', rfl, S1, Z1, hb1, -⟩
    have d1 : Below w.heap.size w w1 := below_after (by (with_reducible repeat first | assumption | exact bl0 _ _ | refine blA ?_ _ | (refine blS ?_ ?_ _; (simp <;> omega)) | refine blD ?_ | refine blN ?_ _ | refine blF ?_ ‹_›)) hb1
    have y1 := d1.size
    have hS := Lib.hid (fun g e => (S1.lt g e).2)
    have hZ := Lib.hid (fun g e => (Z1.lt g e).2)
    have S1q := S1.mono (B' := 0) (Nat.zero_le _)
    have Z1q := Z1.mono (B' := 0) (Nat.zero_le _)
    clear hb1 S1 Z1
    obtain ⟨Q, hQ⟩ : ∃ Q, w1.heap.size = Q := ⟨_, rfl⟩
    have qQ : w.heap.size ≤ Q := by omega
    go_wp2_with fail
    refine (implReplayDecode_any E _ hE (HV.out.below (by (with_reducible repeat first | assumption | exact bl0 _ _ | refine blA ?_ _ | (refine blS ?_ ?_ _; (simp <;> omega)) | refine blD ?_ | refine blN ?_ _ | refine blF ?_ ‹_›)))).mono ?_
    rw [decI_eq, HRP.out, HBO.out]
    rintro e w2 ⟨AV, cV, AV', cV', rfl, V2, U2, hb2, hsepV⟩
    have S2 : Own w2 0 68 3 encInp (.slice AS rp.ins.length cS) rp.ins := Own.later (by (with_reducible repeat first | assumption | refine Own.alloc ?_ _ | refine Own.drew ?_ | refine Own.set (by first | omega | simp <;> omega) ?_ _)) hb2
    have Z2 : Own w2 0 3 1 encInt (.slice AS' rp.hs.length cS') rp.hs := Own.later (by (with_reducible repeat first | assumption | refine Own.alloc ?_ _ | refine Own.drew ?_ | refine Own.set (by first | omega | simp <;> omega) ?_ _)) hb2
    have Q2 : Bk w2 Q 30 #[.int .i64 rp.lv, .int .i64 rp.pl, .int .i64 rp.sc, .slice AS rp.ins.length cS, .slice AS' rp.hs.length cS', .int .i64 rp.tag] := Bk.later (by (repeat first | (with_reducible first | assumption | exact kN _ _ _ (by first | assumption | simp <;> omega) | refine kA ?_ _ | refine kD ?_ | refine kW ?_ _ | apply Bk.set' | refine kF ?_ (by simp <;> omega) _) | exact ⟨by with_reducible rfl⟩ | exact ⟨by simp⟩)) hb2
    have d2 : Below w.heap.size w w2 := below_after (by (with_reducible repeat first | assumption | exact bl0 _ _ | refine blA ?_ _ | (refine blS ?_ ?_ _; (simp <;> omega)) | refine blD ?_ | refine blN ?_ _ | refine blF ?_ ‹_›)) hb2
    have y2 := d2.size
    have q2 := hb2.size
    have hV2 := V2.lt
    have hU2 := U2.lt
    simp only [World.size_alloc, hQ] at q2 hV2 hU2
    have HVV := Lib.hid hV2
    have HUU := Lib.hid hU2
    have HSV := Lib.hid hsepV
    have V2q := V2.mono (B' := 0) (Nat.zero_le _)
    have U2q := U2.mono (B' := 0) (Nat.zero_le _)
    clear hsepV V2 U2 hV2 hU2
    clear S1q Z1q d1 hb2
    obtain ⟨⟨cQ0, cQ1, cQ2, cQ3, cQ4, cQ5⟩, cQf⟩ := Q2.c6
    have zQ2 := Q2.lt
    obtain ⟨Y, hY⟩ : ∃ Y, w2.heap.size = Y := ⟨_, rfl⟩
    have qQY : Q < Y := by omega
    go_wp2_with fail
    refine (eqReplay_same AV AV' AS AS' cV cV' cS cS' rp _ ((V2q.sl' encInp_len).below (by (with_reducible repeat first | assumption | exact bl0 _ _ | refine blA ?_ _ | (refine blS ?_ ?_ _; (simp <;> omega)) | refine blD ?_ | refine blN ?_ _ | refine blF ?_ ‹_›))) ((U2q.sl' encInt_len).below (by (with_reducible repeat first | assumption | exact bl0 _ _ | refine blA ?_ _ | (refine blS ?_ ?_ _; (simp <;> omega)) | refine blD ?_ | refine blN ?_ _ | refine blF ?_ ‹_›))) ((S2.sl' encInp_len).below (by (with_reducible repeat first | assumption | exact bl0 _ _ | refine blA ?_ _ | (refine blS ?_ ?_ _; (simp <;> omega)) | refine blD ?_ | refine blN ?_ _ | refine blF ?_ ‹_›))) ((Z2.sl' encInt_len).below (by (with_reducible repeat first | assumption | exact bl0 _ _ | refine blA ?_ _ | (refine blS ?_ ?_ _; (simp <;> omega)) | refine blD ?_ | refine blN ?_ _ | refine blF ?_ ‹_›))) (by omega) (by omega)).mono ?_
    rintro e w3 ⟨rfl, hb3⟩
    have S3 : Own w3 0 68 3 encInp (.slice AS rp.ins.length cS) rp.ins := Own.later (by (with_reducible repeat first | assumption | refine Own.alloc ?_ _ | refine Own.drew ?_ | refine Own.set (by first | omega | simp <;> omega) ?_ _)) hb3
    have Z3 : Own w3 0 3 1 encInt (.slice AS' rp.hs.length cS') rp.hs := Own.later (by (with_reducible repeat first | assumption | refine Own.alloc ?_ _ | refine Own.drew ?_ | refine Own.set (by first | omega | simp <;> omega) ?_ _)) hb3
    have Q3 : Bk w3 Q 30 #[.int .i64 rp.lv, .int .i64 rp.pl, .int .i64 rp.sc, .slice AS rp.ins.length cS, .slice AS' rp.hs.length cS', .int .i64 rp.tag] := Bk.later (by (repeat first | (with_reducible first | assumption | exact kN _ _ _ (by first | assumption | simp <;> omega) | refine kA ?_ _ | refine kD ?_ | refine kW ?_ _ | apply Bk.set' | refine kF ?_ (by simp <;> omega) _) | exact ⟨by with_reducible rfl⟩ | exact ⟨by simp⟩)) hb3
    have V3 : Own w3 0 68 3 encInp (.slice AV rp.ins.length cV) rp.ins := Own.later (by (with_reducible repeat first | assumption | refine Own.alloc ?_ _ | refine Own.drew ?_ | refine Own.set (by first | omega | simp <;> omega) ?_ _)) hb3
    have U3 : Own w3 0 3 1 encInt (.slice AV' rp.hs.length cV') rp.hs := Own.later (by (with_reducible repeat first | assumption | refine Own.alloc ?_ _ | refine Own.drew ?_ | refine Own.set (by first | omega | simp <;> omega) ?_ _)) hb3
    have Y3 : Bk w3 Y 30 #[.int .i64 rp.lv, .int .i64 rp.pl, .int .i64 rp.sc, .slice AV rp.ins.length cV, .slice AV' rp.hs.length cV', .int .i64 rp.tag] := Bk.later (by (repeat first | (with_reducible first | assumption | exact kN _ _ _ (by first | assumption | simp <;> omega) | refine kA ?_ _ | refine kD ?_ | refine kW ?_ _ | apply Bk.set' | refine kF ?_ (by simp <;> omega) _) | exact ⟨by with_reducible rfl⟩ | exact ⟨by simp⟩)) hb3
    have d3 : Below w.heap.size w w3 := below_after (by (with_reducible repeat first | assumption | exact bl0 _ _ | refine blA ?_ _ | (refine blS ?_ ?_ _; (simp <;> omega)) | refine blD ?_ | refine blN ?_ _ | refine blF ?_ ‹_›)) hb3
    have y3 := d3.size
    clear S2 Z2 Q2 V2q U2q d2 cQ0 cQ1 cQ2 cQ3 cQ4 cQ5 cQf hb3
    obtain ⟨⟨cY0, cY1, cY2, cY3, cY4, cY5⟩, cYf⟩ := Y3.c6
    have zY3 := Y3.lt
    go_wp2_with fail
    refine (markReplay_own AV AV' cV cV' rp _ 1 _ V3 U3 HSV.out (by omega) (by omega) (by omega) (by omega)).mono ?_
    rintro e w4 ⟨rfl, V4, U4, v3, hg3, hg4⟩
    have S4 : Own w4 0 68 3 encInp (.slice AS rp.ins.length cS) rp.ins := Own.keptN (Own.keptN (S3) hg3 (by intro g e e1; have := HVV.out _ e1; have := hS.out g e; omega)) hg4 (by intro g e e1; have := HUU.out _ e1; have := hS.out g e; omega)
    have Z4 : Own w4 0 3 1 encInt (.slice AS' rp.hs.length cS') rp.hs := Own.keptN (Own.keptN (Z3) hg3 (by intro g e e1; have := HVV.out _ e1; have := hZ.out g e; omega)) hg4 (by intro g e e1; have := HUU.out _ e1; have := hZ.out g e; omega)
    have Q4 : Bk w4 Q 30 #[.int .i64 rp.lv, .int .i64 rp.pl, .int .i64 rp.sc, .slice AS rp.ins.length cS, .slice AS' rp.hs.length cS', .int .i64 rp.tag] := Bk.grown (Bk.grown (Q3) hg3 (by intro e; have := HVV.out _ e.symm; omega)) hg4 (by intro e; have := HUU.out _ e.symm; omega)
    have Y4 : Bk w4 Y 30 #[.int .i64 rp.lv, .int .i64 rp.pl, .int .i64 rp.sc, .slice AV rp.ins.length cV, .slice AV' rp.hs.length cV', .int .i64 rp.tag] := Bk.grown (Bk.grown (Y3) hg3 (by intro e; have := HVV.out _ e.symm; omega)) hg4 (by intro e; have := HUU.out _ e.symm; omega)
    have d4 : Below w.heap.size w w4 := (d3.grown hg3 d3.size (by intro g e; have := HVV.out _ e; omega)).grown hg4 (Nat.le_trans d3.size hg3.size) (by intro g e; have := HUU.out _ e; omega)
    have M4 := V4.sl encInp_len
    have N4 := U4.sl encInt_len
    clear S3 Z3 Q3 V3 U3 Y3 d3 cY0 cY1 cY2 cY3 cY4 cY5 cYf hg3 hg4 V4 U4
    obtain ⟨⟨cY0, cY1, cY2, cY3, cY4, cY5⟩, cYf⟩ := Y4.c6
    have zY4 := Y4.lt
    go_wp2_with fail
    refine (heldReplay_any AV AV' cV cV' rp 1 _ (M4.below (by (with_reducible repeat first | assumption | exact bl0 _ _ | refine blA ?_ _ | (refine blS ?_ ?_ _; (simp <;> omega)) | refine blD ?_ | refine blN ?_ _ | refine blF ?_ ‹_›))) (N4.below (by (with_reducible repeat first | assumption | exact bl0 _ _ | refine blA ?_ _ | (refine blS ?_ ?_ _; (simp <;> omega)) | refine blD ?_ | refine blN ?_ _ | refine blF ?_ ‹_›))) (by omega) (by omega) (by omega) (by omega)).mono ?_
    rintro e w5 ⟨rfl, hb5⟩
    have S5 : Own w5 0 68 3 encInp (.slice AS rp.ins.length cS) rp.ins := Own.later (by (with_reducible repeat first | assumption | refine Own.alloc ?_ _ | refine Own.drew ?_ | refine Own.set (by first | omega | simp <;> omega) ?_ _)) hb5
    have Z5 : Own w5 0 3 1 encInt (.slice AS' rp.hs.length cS') rp.hs := Own.later (by (with_reducible repeat first | assumption | refine Own.alloc ?_ _ | refine Own.drew ?_ | refine Own.set (by first | omega | simp <;> omega) ?_ _)) hb5
    have Q5 : Bk w5 Q 30 #[.int .i64 rp.lv, .int .i64 rp.pl, .int .i64 rp.sc, .slice AS rp.ins.length cS, .slice AS' rp.hs.length cS', .int .i64 rp.tag] := Bk.later (by (repeat first | (with_reducible first | assumption | exact kN _ _ _ (by first | assumption | simp <;> omega) | refine kA ?_ _ | refine kD ?_ | refine kW ?_ _ | apply Bk.set' | refine kF ?_ (by simp <;> omega) _) | exact ⟨by with_reducible rfl⟩ | exact ⟨by simp⟩)) hb5
    have Y5 : Bk w5 Y 30 #[.int .i64 rp.lv, .int .i64 rp.pl, .int .i64 rp.sc, .slice AV rp.ins.length cV, .slice AV' rp.hs.length cV', .int .i64 rp.tag] := Bk.later (by (repeat first | (with_reducible first | assumption | exact kN _ _ _ (by first | assumption | simp <;> omega) | refine kA ?_ _ | refine kD ?_ | refine kW ?_ _ | apply Bk.set' | refine kF ?_ (by simp <;> omega) _) | exact ⟨by with_reducible rfl⟩ | exact ⟨by simp⟩)) hb5
    have M5 : Sl w5 3 encInp AV rp.ins.length (marks mkInp 3 1 rp.ins.length) := Sl.below (by first | (with_reducible assumption) | exact sl_all (by assumption) _) hb5
    have N5 : Sl w5 1 encInt AV' rp.hs.length (marks mkInt 1 (1 + (3 * rp.ins.length : Nat)) rp.hs.length) := Sl.below (by first | (with_reducible assumption) | exact sl_all (by assumption) _) hb5
    have d5 : Below w.heap.size w w5 := below_after (by (with_reducible repeat first | assumption | exact bl0 _ _ | refine blA ?_ _ | (refine blS ?_ ?_ _; (simp <;> omega)) | refine blD ?_ | refine blN ?_ _ | refine blF ?_ ‹_›)) hb5
    have y5 := d5.size
    clear S4 Z4 Q4 Y4 M4 N4 d4 cY0 cY1 cY2 cY3 cY4 cY5 cYf hb5
    go_wp2_with fail
    refine (implReplayDecode_any E _ hE (HV.out.below (by (with_reducible repeat first | assumption | exact bl0 _ _ | refine blA ?_ _ | (refine blS ?_ ?_ _; (simp <;> omega)) | refine blD ?_ | refine blN ?_ _ | refine blF ?_ ‹_›)))).mono ?_
    rw [decI_eq, HRP.out, HBO.out]
    rintro e w6 ⟨AH, cH, AH', cH', rfl, I6, J6, hb6, -⟩
    have S6 : Own w6 0 68 3 encInp (.slice AS rp.ins.length cS) rp.ins := Own.later (by (with_reducible repeat first | assumption | refine Own.alloc ?_ _ | refine Own.drew ?_ | refine Own.set (by first | omega | simp <;> omega) ?_ _)) hb6
    have Z6 : Own w6 0 3 1 encInt (.slice AS' rp.hs.length cS') rp.hs := Own.later (by (with_reducible repeat first | assumption | refine Own.alloc ?_ _ | refine Own.drew ?_ | refine Own.set (by first | omega | simp <;> omega) ?_ _)) hb6
    have Q6 : Bk w6 Q 30 #[.int .i64 rp.lv, .int .i64 rp.pl, .int .i64 rp.sc, .slice AS rp.ins.length cS, .slice AS' rp.hs.length cS', .int .i64 rp.tag] := Bk.later (by (repeat first | (with_reducible first | assumption | exact kN _ _ _ (by first | assumption | simp <;> omega) | refine kA ?_ _ | refine kD ?_ | refine kW ?_ _ | apply Bk.set' | refine kF ?_ (by simp <;> omega) _) | exact ⟨by with_reducible rfl⟩ | exact ⟨by simp⟩)) hb6
    have Y6 : Bk w6 Y 30 #[.int .i64 rp.lv, .int .i64 rp.pl, .int .i64 rp.sc, .slice AV rp.ins.length cV, .slice AV' rp.hs.length cV', .int .i64 rp.tag] := Bk.later (by (repeat first | (with_reducible first | assumption | exact kN _ _ _ (by first | assumption | simp <;> omega) | refine kA ?_ _ | refine kD ?_ | refine kW ?_ _ | apply Bk.set' | refine kF ?_ (by simp <;> omega) _) | exact ⟨by with_reducible rfl⟩ | exact ⟨by simp⟩)) hb6
    have M6 : Sl w6 3 encInp AV rp.ins.length (marks mkInp 3 1 rp.ins.length) := Sl.below (by first | (with_reducible assumption) | exact sl_all (by assumption) _) hb6
    have N6 : Sl w6 1 encInt AV' rp.hs.length (marks mkInt 1 (1 + (3 * rp.ins.length : Nat)) rp.hs.length) := Sl.below (by first | (with_reducible assumption) | exact sl_all (by assumption) _) hb6
    have d6 : Below w.heap.size w w6 := below_after (by (with_reducible repeat first | assumption | exact bl0 _ _ | refine blA ?_ _ | (refine blS ?_ ?_ _; (simp <;> omega)) | refine blD ?_ | refine blN ?_ _ | refine blF ?_ ‹_›)) hb6
    have y6 := d6.size
    clear S5 Z5 Q5 Y5 M5 N5 d5 hb6
    obtain ⟨⟨cQ0, cQ1, cQ2, cQ3, cQ4, cQ5⟩, cQf⟩ := Q6.c6
    have zQ6 := Q6.lt
    go_wp2_with fail
    refine (eqReplay_same AH AH' AS AS' cH cH' cS cS' rp _ ((I6.sl' encInp_len).below (by (with_reducible repeat first | assumption | exact bl0 _ _ | refine blA ?_ _ | (refine blS ?_ ?_ _; (simp <;> omega)) | refine blD ?_ | refine blN ?_ _ | refine blF ?_ ‹_›))) ((J6.sl' encInt_len).below (by (with_reducible repeat first | assumption | exact bl0 _ _ | refine blA ?_ _ | (refine blS ?_ ?_ _; (simp <;> omega)) | refine blD ?_ | refine blN ?_ _ | refine blF ?_ ‹_›))) ((S6.sl' encInp_len).below (by (with_reducible repeat first | assumption | exact bl0 _ _ | refine blA ?_ _ | (refine blS ?_ ?_ _; (simp <;> omega)) | refine blD ?_ | refine blN ?_ _ | refine blF ?_ ‹_›))) ((Z6.sl' encInt_len).below (by (with_reducible repeat first | assumption | exact bl0 _ _ | refine blA ?_ _ | (refine blS ?_ ?_ _; (simp <;> omega)) | refine blD ?_ | refine blN ?_ _ | refine blF ?_ ‹_›))) (by omega) (by omega)).mono ?_
    rintro e w7 ⟨rfl, hb7⟩
    have Y7 : Bk w7 Y 30 #[.int .i64 rp.lv, .int .i64 rp.pl, .int .i64 rp.sc, .slice AV rp.ins.length cV, .slice AV' rp.hs.length cV', .int .i64 rp.tag] := Bk.later (by (repeat first | (with_reducible first | assumption | exact kN _ _ _ (by first | assumption | simp <;> omega) | refine kA ?_ _ | refine kD ?_ | refine kW ?_ _ | apply Bk.set' | refine kF ?_ (by simp <;> omega) _) | exact ⟨by with_reducible rfl⟩ | exact ⟨by simp⟩)) hb7
    have M7 : Sl w7 3 encInp AV rp.ins.length (marks mkInp 3 1 rp.ins.length) := Sl.below (by first | (with_reducible assumption) | exact sl_all (by assumption) _) hb7
    have N7 : Sl w7 1 encInt AV' rp.hs.length (marks mkInt 1 (1 + (3 * rp.ins.length : Nat)) rp.hs.length) := Sl.below (by first | (with_reducible assumption) | exact sl_all (by assumption) _) hb7
    have d7 : Below w.heap.size w w7 := below_after (by (with_reducible repeat first | assumption | exact bl0 _ _ | refine blA ?_ _ | (refine blS ?_ ?_ _; (simp <;> omega)) | refine blD ?_ | refine blN ?_ _ | refine blF ?_ ‹_›)) hb7
    have y7 := d7.size
    clear I6 J6
    clear S6 Z6 Q6 Y6 M6 N6 d6 cQ0 cQ1 cQ2 cQ3 cQ4 cQ5 cQf hb7
    obtain ⟨⟨cY0, cY1, cY2, cY3, cY4, cY5⟩, cYf⟩ := Y7.c6
    have zY7 := Y7.lt
    go_wp2_with fail
    refine (heldReplay_any AV AV' cV cV' rp 1 _ (M7.below (by (with_reducible repeat first | assumption | exact bl0 _ _ | refine blA ?_ _ | (refine blS ?_ ?_ _; (simp <;> omega)) | refine blD ?_ | refine blN ?_ _ | refine blF ?_ ‹_›))) (N7.below (by (with_reducible repeat first | assumption | exact bl0 _ _ | refine blA ?_ _ | (refine blS ?_ ?_ _; (simp <;> omega)) | refine blD ?_ | refine blN ?_ _ | refine blF ?_ ‹_›))) (by omega) (by omega) (by omega) (by omega)).mono ?_
    rintro e w8 ⟨rfl, hb8⟩
    have Y8 : Bk w8 Y 30 #[.int .i64 rp.lv, .int .i64 rp.pl, .int .i64 rp.sc, .slice AV rp.ins.length cV, .slice AV' rp.hs.length cV', .int .i64 rp.tag] := Bk.later (by (repeat first | (with_reducible first | assumption | exact kN _ _ _ (by first | assumption | simp <;> omega) | refine kA ?_ _ | refine kD ?_ | refine kW ?_ _ | apply Bk.set' | refine kF ?_ (by simp <;> omega) _) | exact ⟨by with_reducible rfl⟩ | exact ⟨by simp⟩)) hb8
    have M8 : Sl w8 3 encInp AV rp.ins.length (marks mkInp 3 1 rp.ins.length) := Sl.below (by first | (with_reducible assumption) | exact sl_all (by assumption) _) hb8
    have N8 : Sl w8 1 encInt AV' rp.hs.length (marks mkInt 1 (1 + (3 * rp.ins.length : Nat)) rp.hs.length) := Sl.below (by first | (with_reducible assumption) | exact sl_all (by assumption) _) hb8
    have d8 : Below w.heap.size w w8 := below_after (by (with_reducible repeat first | assumption | exact bl0 _ _ | refine blA ?_ _ | (refine blS ?_ ?_ _; (simp <;> omega)) | refine blD ?_ | refine blN ?_ _ | refine blF ?_ ‹_›)) hb8
    have y8 := d8.size
    clear Y7 M7 N7 d7 cY0 cY1 cY2 cY3 cY4 cY5 cYf hb8
    go_wp2
    go_ret
    exact ⟨rfl, d8⟩
  · have hgt : (E.length : Int) > 1048576 := by omega
    go_enter Tryd.func5, Tryd.ntmps5
    go_wp2
    go_ret
    exact ⟨rfl, by (with_reducible repeat first | assumption | exact bl0 _ _ | refine blA ?_ _ | (refine blS ?_ ?_ _; (simp <;> omega)) | refine blD ?_ | refine blN ?_ _ | refine blF ?_ ‹_›)⟩
end Go.Proofs.YtdpoicfciogfnaaDoor
