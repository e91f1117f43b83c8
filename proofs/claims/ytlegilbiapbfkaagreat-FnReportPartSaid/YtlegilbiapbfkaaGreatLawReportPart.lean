/- The law FnReportPart: its walk. A missing hash is reported. Printed by gen/lawsT.py. (Round B) -/
import Derived.Test.YtlegilbiapbfkaaGreatEqR
import Derived.Test.YtlegilbiapbfkaaGreatZPart
import Derived.Test.YtlegilbiapbfkaaGreatSpecM
namespace Go.Proofs.YtlegilbiapbfkaaGreat
open Go.ChangeShapes Go.WideShapes Go.ChangeAt Go.RowKit
set_option maxRecDepth 100000 in
set_option maxHeartbeats 8000000 in
theorem lawReportPart (A : Option Addr) (n c : Nat) (l : List Int) (w : World) (h : Sl w 1 encU8 A n l) (hl : ∀ x ∈ l, 0 ≤ x ∧ x < 256) (hn : n ≤ 9223372036854775807) (hnc : n ≤ c) (hc : c ≤ 9223372036854775807) :
    Calls Sq.prog 6 #[.slice A n c] w fun e w' => e = .returned (.bool true) ∧ Below w.heap.size w w' := by
  by_cases h1 : 1048576 < (n : Int)
  · go_enter Sq.func6, Sq.ntmps6
    go_wp2
    go_ret
    exact ⟨rfl, Below.refl _ _⟩
  have hEq := eqRptIn
  go_enter Sq.func6, Sq.ntmps6
  go_wp2_with fail
  refine (drawReport_any A n c l _ h hl hn hnc hc).mono ?_
  rintro e w1 ⟨lv, B, B', k, k', ins, A2, c2, cl, A3, c3, rfl, hD, -, hcl, hc3, hS, d1⟩
  clear h hl
  have nw := hD.nw
  have ng := hD.ng
  have ni := hD.ni
  have ci := hD.ci
  have y1 := d1.size
  obtain ⟨ro, hro⟩ : ∃ ro, repOk lv ins cl = ro := ⟨_, rfl⟩
  have HRO := Lib.hid hro
  obtain ⟨rk, hrk⟩ : ∃ rk, repK lv ins cl = rk := ⟨_, rfl⟩
  have HRK := Lib.hid hrk
  obtain ⟨rf, hrf⟩ : ∃ rf, repF lv ins cl = rf := ⟨_, rfl⟩
  have HRF := Lib.hid hrf
  obtain ⟨rt, hrt⟩ : ∃ rt, repT lv ins cl = rt := ⟨_, rfl⟩
  have HRT := Lib.hid hrt
  clear hro hrk hrf hrt
  obtain ⟨L, hL⟩ : ∃ L, w1.heap.size = L := ⟨_, rfl⟩
  go_wp2_with fail
  refine (implDivergeReport_any lv ins cl B B' A2 A3 k k' c2 c3 _ (hD.W.below (by (with_reducible repeat first | assumption | exact bl0 _ _ | refine blA ?_ _ | (refine blS ?_ ?_ _; (simp <;> omega)) | refine blD ?_ | refine blN ?_ _ | refine blF ?_ ‹_›))) (hD.G.below (by (with_reducible repeat first | assumption | exact bl0 _ _ | refine blA ?_ _ | (refine blS ?_ ?_ _; (simp <;> omega)) | refine blD ?_ | refine blN ?_ _ | refine blF ?_ ‹_›))) hD.e hD.e' (by omega) (by omega) (hD.I.below (by (with_reducible repeat first | assumption | exact bl0 _ _ | refine blA ?_ _ | (refine blS ?_ ?_ _; (simp <;> omega)) | refine blD ?_ | refine blN ?_ _ | refine blF ?_ ‹_›))) (by omega) (hS.below (by (with_reducible repeat first | assumption | exact bl0 _ _ | refine blA ?_ _ | (refine blS ?_ ?_ _; (simp <;> omega)) | refine blD ?_ | refine blN ?_ _ | refine blF ?_ ‹_›))) (by omega)).mono ?_
  unfold RetRpt
  rw [HRK.out, HRF.out, HRT.out, HRO.out]
  rintro e w2 ⟨rfl, hb2⟩
  have FD2 : Drawn lv B B' k k' ins A2 c2 w2 := Drawn.below (by (repeat (first | (with_reducible assumption) | (with_reducible refine Drawn.alloc ?_ _) | (with_reducible refine Drawn.drew ?_)))) hb2
  have FS2 : Sl w2 1 encInt A3 cl.length cl := Sl.below (by (repeat (first | (with_reducible assumption) | (with_reducible refine Sl.alloc' ?_ _) | (with_reducible refine Sl.drew' ?_)))) hb2
  have FL2 : Bk w2 L 29 #[.int .i64 lv.id, .int .i64 lv.ticks, .int .i64 lv.start.x, .int .i64 lv.start.y, .slice B lv.walls.length k, .slice B' lv.gates.length k', .int .i64 lv.fin.lo.x, .int .i64 lv.fin.lo.y, .int .i64 lv.fin.hi.x, .int .i64 lv.fin.hi.y, .int .i64 lv.bans] := Bk.later (by (repeat first | (with_reducible first | assumption | exact kN _ _ _ (by first | assumption | simp <;> omega) | refine kA ?_ _ | refine kD ?_ | refine kW ?_ _ | apply Bk.set' | refine kF ?_ (by simp <;> omega) _) | exact ⟨by with_reducible rfl⟩ | exact ⟨by simp⟩)) hb2
  have d2 : Below w.heap.size w w2 := below_after (by (with_reducible repeat first | assumption | exact bl0 _ _ | refine blA ?_ _ | (refine blS ?_ ?_ _; (simp <;> omega)) | refine blD ?_ | refine blN ?_ _ | refine blF ?_ ‹_›)) hb2
  have y2 := d2.size
  have zL2 := FL2.lt
  clear hb2 hD hS d1 y1
  obtain ⟨⟨cL0, cL1, cL2, cL3, cL4, cL5, cL6, cL7, cL8, cL9, cL10⟩, cLf⟩ := FL2.c11
  obtain ⟨O, hO⟩ : ∃ O, w2.heap.size = O := ⟨_, rfl⟩
  have qLO : L < O := by omega
  go_wp2_with fail
  refine (specDivergeReport_any lv ins cl B B' A2 A3 k k' c2 c3 _ (FD2.W.below (by (with_reducible repeat first | assumption | exact bl0 _ _ | refine blA ?_ _ | (refine blS ?_ ?_ _; (simp <;> omega)) | refine blD ?_ | refine blN ?_ _ | refine blF ?_ ‹_›))) (FD2.G.below (by (with_reducible repeat first | assumption | exact bl0 _ _ | refine blA ?_ _ | (refine blS ?_ ?_ _; (simp <;> omega)) | refine blD ?_ | refine blN ?_ _ | refine blF ?_ ‹_›))) (by omega) (by omega) (FD2.I.below (by (with_reducible repeat first | assumption | exact bl0 _ _ | refine blA ?_ _ | (refine blS ?_ ?_ _; (simp <;> omega)) | refine blD ?_ | refine blN ?_ _ | refine blF ?_ ‹_›))) (by omega) (FS2.below (by (with_reducible repeat first | assumption | exact bl0 _ _ | refine blA ?_ _ | (refine blS ?_ ?_ _; (simp <;> omega)) | refine blD ?_ | refine blN ?_ _ | refine blF ?_ ‹_›))) (by omega)).mono ?_
  unfold RetRpt
  rw [HRK.out, HRF.out, HRT.out, HRO.out]
  rintro e w3 ⟨rfl, hb3⟩
  have FD3 : Drawn lv B B' k k' ins A2 c2 w3 := Drawn.below (by (repeat (first | (with_reducible assumption) | (with_reducible refine Drawn.alloc ?_ _) | (with_reducible refine Drawn.drew ?_)))) hb3
  have FS3 : Sl w3 1 encInt A3 cl.length cl := Sl.below (by (repeat (first | (with_reducible assumption) | (with_reducible refine Sl.alloc' ?_ _) | (with_reducible refine Sl.drew' ?_)))) hb3
  have FL3 : Bk w3 L 29 #[.int .i64 lv.id, .int .i64 lv.ticks, .int .i64 lv.start.x, .int .i64 lv.start.y, .slice B lv.walls.length k, .slice B' lv.gates.length k', .int .i64 lv.fin.lo.x, .int .i64 lv.fin.lo.y, .int .i64 lv.fin.hi.x, .int .i64 lv.fin.hi.y, .int .i64 lv.bans] := Bk.later (by (repeat first | (with_reducible first | assumption | exact kN _ _ _ (by first | assumption | simp <;> omega) | refine kA ?_ _ | refine kD ?_ | refine kW ?_ _ | apply Bk.set' | refine kF ?_ (by simp <;> omega) _) | exact ⟨by with_reducible rfl⟩ | exact ⟨by simp⟩)) hb3
  have FO3 : Bk w3 O 35 #[.int .i64 rk, .int .i64 rf, .int .i64 rt] := Bk.later (by (repeat first | (with_reducible first | assumption | exact kN _ _ _ (by first | assumption | simp <;> omega) | refine kA ?_ _ | refine kD ?_ | refine kW ?_ _ | apply Bk.set' | refine kF ?_ (by simp <;> omega) _) | exact ⟨by with_reducible rfl⟩ | exact ⟨by simp⟩)) hb3
  have d3 : Below w.heap.size w w3 := below_after (by (with_reducible repeat first | assumption | exact bl0 _ _ | refine blA ?_ _ | (refine blS ?_ ?_ _; (simp <;> omega)) | refine blD ?_ | refine blN ?_ _ | refine blF ?_ ‹_›)) hb3
  have y3 := d3.size
  have zL3 := FL3.lt
  have zO3 := FO3.lt
  clear hb3 FD2 FS2 FL2 d2 y2 zL2 cL0 cL1 cL2 cL3 cL4 cL5 cL6 cL7 cL8 cL9 cL10 cLf
  obtain ⟨⟨cL0, cL1, cL2, cL3, cL4, cL5, cL6, cL7, cL8, cL9, cL10⟩, cLf⟩ := FL3.c11
  obtain ⟨⟨cO0, cO1, cO2⟩, cOf⟩ := FO3.c3
  obtain ⟨W, hW⟩ : ∃ W, w3.heap.size = W := ⟨_, rfl⟩
  have qLW : L < W := by omega
  have qOW : O < W := by omega
  obtain ⟨lx, hlx⟩ : ∃ lx, (if levOk lv then legal lv ins else 0) = lx := ⟨_, rfl⟩
  have HLX := Lib.hid hlx
  clear hlx
  go_wp2_with fail
  refine (specInputsLegal_any lv ins B B' A2 k k' c2 _ (FD3.W.below (by (with_reducible repeat first | assumption | exact bl0 _ _ | refine blA ?_ _ | (refine blS ?_ ?_ _; (simp <;> omega)) | refine blD ?_ | refine blN ?_ _ | refine blF ?_ ‹_›))) (FD3.G.below (by (with_reducible repeat first | assumption | exact bl0 _ _ | refine blA ?_ _ | (refine blS ?_ ?_ _; (simp <;> omega)) | refine blD ?_ | refine blN ?_ _ | refine blF ?_ ‹_›))) (FD3.I.below (by (with_reducible repeat first | assumption | exact bl0 _ _ | refine blA ?_ _ | (refine blS ?_ ?_ _; (simp <;> omega)) | refine blD ?_ | refine blN ?_ _ | refine blF ?_ ‹_›))) (by omega) (by omega) (by omega)).mono ?_
  rw [HLX.out]
  rintro e w4 ⟨rfl, hb4⟩
  have FD4 : Drawn lv B B' k k' ins A2 c2 w4 := Drawn.below (by (repeat (first | (with_reducible assumption) | (with_reducible refine Drawn.alloc ?_ _) | (with_reducible refine Drawn.drew ?_)))) hb4
  have FS4 : Sl w4 1 encInt A3 cl.length cl := Sl.below (by (repeat (first | (with_reducible assumption) | (with_reducible refine Sl.alloc' ?_ _) | (with_reducible refine Sl.drew' ?_)))) hb4
  have FL4 : Bk w4 L 29 #[.int .i64 lv.id, .int .i64 lv.ticks, .int .i64 lv.start.x, .int .i64 lv.start.y, .slice B lv.walls.length k, .slice B' lv.gates.length k', .int .i64 lv.fin.lo.x, .int .i64 lv.fin.lo.y, .int .i64 lv.fin.hi.x, .int .i64 lv.fin.hi.y, .int .i64 lv.bans] := Bk.later (by (repeat first | (with_reducible first | assumption | exact kN _ _ _ (by first | assumption | simp <;> omega) | refine kA ?_ _ | refine kD ?_ | refine kW ?_ _ | apply Bk.set' | refine kF ?_ (by simp <;> omega) _) | exact ⟨by with_reducible rfl⟩ | exact ⟨by simp⟩)) hb4
  have FO4 : Bk w4 O 35 #[.int .i64 rk, .int .i64 rf, .int .i64 rt] := Bk.later (by (repeat first | (with_reducible first | assumption | exact kN _ _ _ (by first | assumption | simp <;> omega) | refine kA ?_ _ | refine kD ?_ | refine kW ?_ _ | apply Bk.set' | refine kF ?_ (by simp <;> omega) _) | exact ⟨by with_reducible rfl⟩ | exact ⟨by simp⟩)) hb4
  have FW4 : Bk w4 W 35 #[.int .i64 rk, .int .i64 rf, .int .i64 rt] := Bk.later (by (repeat first | (with_reducible first | assumption | exact kN _ _ _ (by first | assumption | simp <;> omega) | refine kA ?_ _ | refine kD ?_ | refine kW ?_ _ | apply Bk.set' | refine kF ?_ (by simp <;> omega) _) | exact ⟨by with_reducible rfl⟩ | exact ⟨by simp⟩)) hb4
  have d4 : Below w.heap.size w w4 := below_after (by (with_reducible repeat first | assumption | exact bl0 _ _ | refine blA ?_ _ | (refine blS ?_ ?_ _; (simp <;> omega)) | refine blD ?_ | refine blN ?_ _ | refine blF ?_ ‹_›)) hb4
  have y4 := d4.size
  have zL4 := FL4.lt
  have zO4 := FO4.lt
  have zW4 := FW4.lt
  clear hb4 FD3 FS3 FL3 FO3 d3 y3 zL3 zO3 cL0 cL1 cL2 cL3 cL4 cL5 cL6 cL7 cL8 cL9 cL10 cLf cO0 cO1 cO2 cOf
  obtain ⟨⟨cL0, cL1, cL2, cL3, cL4, cL5, cL6, cL7, cL8, cL9, cL10⟩, cLf⟩ := FL4.c11
  obtain ⟨⟨cO0, cO1, cO2⟩, cOf⟩ := FO4.c3
  obtain ⟨⟨cW0, cW1, cW2⟩, cWf⟩ := FW4.c3
  by_cases hge : 0 ≤ lx
  · go_wp2
    go_ret
    exact ⟨rfl, by (with_reducible repeat first | assumption | exact bl0 _ _ | refine blA ?_ _ | (refine blS ?_ ?_ _; (simp <;> omega)) | refine blD ?_ | refine blN ?_ _ | refine blF ?_ ‹_›)⟩
  by_cases h5 : (ins.length : Int) < 5
  · go_wp2
    go_ret
    exact ⟨rfl, by (with_reducible repeat first | assumption | exact bl0 _ _ | refine blA ?_ _ | (refine blS ?_ ?_ _; (simp <;> omega)) | refine blD ?_ | refine blN ?_ _ | refine blF ?_ ‹_›)⟩
  have hr : runOk lv ins = true := by
    cases h : runOk lv ins
    · exact absurd (runOk_no2 h) (by rw [HLX.out]; exact hge)
    · rfl
  have hlen := hashesR_len hr
  have h60 := (runOk_bd hr).2.1
  obtain ⟨hs, hhs⟩ : ∃ hs, hashesR lv ins = hs := ⟨_, rfl⟩
  rw [hhs] at hlen
  obtain ⟨u, hu⟩ : ∃ u, hs.length = u + 1 := ⟨hs.length - 1, by omega⟩
  have hF := firstD_pre (a := hs) (by omega)
  rw [hu] at hF
  simp only [Nat.add_sub_cancel] at hF
  have hl1 : hs.length ≤ ins.length / 5 := by omega
  have hl2 : ins.length / 5 ≤ hs.length := by omega
  have hu1 : hs.length ≤ u + 1 := by omega
  have hu2 : u + 1 ≤ hs.length := by omega
  clear hlen hu
  have HN : Hid (repOk lv ins (hs.take u) = true) := Lib.hid (by unfold repOk; rw [hhs, hF, hr]; simp)
  have HQK : Hid (repK lv ins (hs.take u) = (u : Int)) := Lib.hid (by unfold repK; rw [HN.out, if_pos rfl, hhs, hF])
  have HHS := Lib.hid hhs
  clear hhs hF
  obtain ⟨qf, hqf⟩ : ∃ qf, repF lv ins (hs.take u) = qf := ⟨_, rfl⟩
  obtain ⟨qt, hqt⟩ : ∃ qt, repT lv ins (hs.take u) = qt := ⟨_, rfl⟩
  have HQF := Lib.hid hqf
  have HQT := Lib.hid hqt
  clear hqf hqt
  go_wp2_with fail
  refine (implRunHashes_any lv ins B B' A2 k k' c2 _ (FD4.W.below (by (with_reducible repeat first | assumption | exact bl0 _ _ | refine blA ?_ _ | (refine blS ?_ ?_ _; (simp <;> omega)) | refine blD ?_ | refine blN ?_ _ | refine blF ?_ ‹_›))) (FD4.G.below (by (with_reducible repeat first | assumption | exact bl0 _ _ | refine blA ?_ _ | (refine blS ?_ ?_ _; (simp <;> omega)) | refine blD ?_ | refine blN ?_ _ | refine blF ?_ ‹_›))) FD4.e FD4.e' (by omega) (by omega) (FD4.I.below (by (with_reducible repeat first | assumption | exact bl0 _ _ | refine blA ?_ _ | (refine blS ?_ ?_ _; (simp <;> omega)) | refine blD ?_ | refine blN ?_ _ | refine blF ?_ ‹_›))) (by omega)).mono ?_
  rw [HHS.out]
  rintro e w5 ⟨A6, c6, rfl, hc6, hO6, hb5⟩
  have FD5 : Drawn lv B B' k k' ins A2 c2 w5 := Drawn.below (by (repeat (first | (with_reducible assumption) | (with_reducible refine Drawn.alloc ?_ _) | (with_reducible refine Drawn.drew ?_)))) hb5
  have FL5 : Bk w5 L 29 #[.int .i64 lv.id, .int .i64 lv.ticks, .int .i64 lv.start.x, .int .i64 lv.start.y, .slice B lv.walls.length k, .slice B' lv.gates.length k', .int .i64 lv.fin.lo.x, .int .i64 lv.fin.lo.y, .int .i64 lv.fin.hi.x, .int .i64 lv.fin.hi.y, .int .i64 lv.bans] := Bk.later (by (repeat first | (with_reducible first | assumption | exact kN _ _ _ (by first | assumption | simp <;> omega) | refine kA ?_ _ | refine kD ?_ | refine kW ?_ _ | apply Bk.set' | refine kF ?_ (by simp <;> omega) _) | exact ⟨by with_reducible rfl⟩ | exact ⟨by simp⟩)) hb5
  have d5 : Below w.heap.size w w5 := below_after (by (with_reducible repeat first | assumption | exact bl0 _ _ | refine blA ?_ _ | (refine blS ?_ ?_ _; (simp <;> omega)) | refine blD ?_ | refine blN ?_ _ | refine blF ?_ ‹_›)) hb5
  have y5 := d5.size
  have zL5 := FL5.lt
  clear hb5 FD4 FS4 FL4 FO4 FW4 d4 y4 zL4 zO4 zW4 cL0 cL1 cL2 cL3 cL4 cL5 cL6 cL7 cL8 cL9 cL10 cLf cO0 cO1 cO2 cOf cW0 cW1 cW2 cWf
  obtain ⟨⟨cL0, cL1, cL2, cL3, cL4, cL5, cL6, cL7, cL8, cL9, cL10⟩, cLf⟩ := FL5.c11
  have hw1 : IntKind.i64.wrap ((hs.length : Int) - 1) = (u : Int) := by rw [IntWalk.i64_in _ (by omega)]; omega
  have hu6 : u ≤ c6 := by omega
  have HUT := Lib.hid (len_take (show u ≤ hs.length by omega))
  have hx6 := (hO6.sl' encInt_len).takeN (show u ≤ hs.length by omega)
  go_wp2
  go_region_held3 (fun w' => (w'.cell? ⟨L, 0, none⟩ = some (.int .i64 lv.id) ∧ w'.cell? ⟨L, 1, none⟩ = some (.int .i64 lv.ticks) ∧ w'.cell? ⟨L, 2, none⟩ = some (.int .i64 lv.start.x) ∧ w'.cell? ⟨L, 3, none⟩ = some (.int .i64 lv.start.y) ∧ w'.cell? ⟨L, 4, none⟩ = some (.slice B lv.walls.length k) ∧ w'.cell? ⟨L, 5, none⟩ = some (.slice B' lv.gates.length k') ∧ w'.cell? ⟨L, 6, none⟩ = some (.int .i64 lv.fin.lo.x) ∧ w'.cell? ⟨L, 7, none⟩ = some (.int .i64 lv.fin.lo.y) ∧ w'.cell? ⟨L, 8, none⟩ = some (.int .i64 lv.fin.hi.x) ∧ w'.cell? ⟨L, 9, none⟩ = some (.int .i64 lv.fin.hi.y) ∧ w'.cell? ⟨L, 10, none⟩ = some (.int .i64 lv.bans)))
    (with_reducible exact keepLv FL5 (by (with_reducible repeat first | assumption | exact bl0 _ _ | refine blA ?_ _ | (refine blS ?_ ?_ _; (simp <;> omega)) | refine blD ?_ | refine blN ?_ _ | refine blF ?_ ‹_›)))
    ((go_at_call 11; refine (repTake_any lv ins hs u B B' A2 A6 k k' c2 c6 _ (FD5.W.below (by (with_reducible repeat first | assumption | exact bl0 _ _ | refine blA ?_ _ | (refine blS ?_ ?_ _; (simp <;> omega)) | refine blD ?_ | refine blN ?_ _ | refine blF ?_ ‹_›))) (FD5.G.below (by (with_reducible repeat first | assumption | exact bl0 _ _ | refine blA ?_ _ | (refine blS ?_ ?_ _; (simp <;> omega)) | refine blD ?_ | refine blN ?_ _ | refine blF ?_ ‹_›))) FD5.e FD5.e' (by omega) (by omega) (FD5.I.below (by (with_reducible repeat first | assumption | exact bl0 _ _ | refine blA ?_ _ | (refine blS ?_ ?_ _; (simp <;> omega)) | refine blD ?_ | refine blN ?_ _ | refine blF ?_ ‹_›))) (by omega) (hx6.below (by (with_reducible repeat first | assumption | exact bl0 _ _ | refine blA ?_ _ | (refine blS ?_ ?_ _; (simp <;> omega)) | refine blD ?_ | refine blN ?_ _ | refine blF ?_ ‹_›))) (by omega) (by omega)).mono ?_; unfold RetRpt; rw [HQK.out, HQF.out, HQT.out, HN.out]; rintro e w6 ⟨rfl, hb6⟩; (first | (have N6 : Bk w6 w5.heap.size 35 #[.int .i64 0, .int .i64 0, .int .i64 0] := Bk.later (Bk.new w5.drew _ _ rfl) hb6; have zN6 := N6.lt; obtain ⟨⟨x0, x1, x2⟩, xf⟩ := N6.c3) | (have N6 : Bk w6 w5.heap.size 35 #[.int .i64 0, .int .i64 0, .int .i64 0] := Bk.later (Bk.drew (Bk.new w5 _ _ rfl)) hb6; have zN6 := N6.lt; obtain ⟨⟨x0, x1, x2⟩, xf⟩ := N6.c3) | (have N6 : Bk w6 w5.heap.size 35 #[.int .i64 0, .int .i64 0, .int .i64 0] := Bk.later (Bk.new w5 _ _ rfl) hb6; have zN6 := N6.lt; obtain ⟨⟨x0, x1, x2⟩, xf⟩ := N6.c3) | skip)))
  all_goals
    go_wp2
    go_ret
    exact ⟨rfl, by (with_reducible repeat first | assumption | exact bl0 _ _ | refine blA ?_ _ | (refine blS ?_ ?_ _; (simp <;> omega)) | refine blD ?_ | refine blN ?_ _ | refine blF ?_ ‹_›)⟩
end Go.Proofs.YtlegilbiapbfkaaGreat
