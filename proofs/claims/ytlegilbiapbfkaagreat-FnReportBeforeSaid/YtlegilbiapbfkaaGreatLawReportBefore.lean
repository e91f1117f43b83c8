/- The law FnReportBefore: its walk. Ahead of a report the hashes are true. Printed by gen/lawsT.py. (Round B) -/
import Derived.Test.YtlegilbiapbfkaaGreatEqR
import Derived.Test.YtlegilbiapbfkaaGreatZPart
namespace Go.Proofs.YtlegilbiapbfkaaGreat
open Go.ChangeShapes Go.WideShapes Go.ChangeAt Go.RowKit
set_option maxRecDepth 100000 in
set_option maxHeartbeats 8000000 in
theorem lawReportBefore (A : Option Addr) (n c : Nat) (l : List Int) (w : World) (h : Sl w 1 encU8 A n l) (hl : ∀ x ∈ l, 0 ≤ x ∧ x < 256) (hn : n ≤ 9223372036854775807) (hnc : n ≤ c) (hc : c ≤ 9223372036854775807) :
    Calls Sq.prog 7 #[.slice A n c] w fun e w' => e = .returned (.bool true) ∧ Below w.heap.size w w' := by
  by_cases h1 : 1048576 < (n : Int)
  · go_enter Sq.func7, Sq.ntmps7
    go_wp2
    go_ret
    exact ⟨rfl, Below.refl _ _⟩
  have hEq := eqRptIn
  go_enter Sq.func7, Sq.ntmps7
  go_wp2_with fail
  refine (drawReport_any A n c l _ h hl hn hnc hc).mono ?_
  rintro e w1 ⟨lv, B, B', k, k', ins, A2, c2, cl, A3, c3, rfl, hD, -, hcl, hc3, hS, d1⟩
  clear h hl
  have nw := hD.nw
  have ng := hD.ng
  have ni := hD.ni
  have ci := hD.ci
  have y1 := d1.size
  obtain ⟨ro, hro⟩ : ∃ ro, repOk lv ins cl = ro := ⟨_, rfl⟩
  have HRO := Lib.hid hro
  obtain ⟨rk, hrk⟩ : ∃ rk, repK lv ins cl = rk := ⟨_, rfl⟩
  have HRK := Lib.hid hrk
  obtain ⟨rf, hrf⟩ : ∃ rf, repF lv ins cl = rf := ⟨_, rfl⟩
  have HRF := Lib.hid hrf
  obtain ⟨rt, hrt⟩ : ∃ rt, repT lv ins cl = rt := ⟨_, rfl⟩
  have HRT := Lib.hid hrt
  clear hro hrk hrf hrt
  obtain ⟨L, hL⟩ : ∃ L, w1.heap.size = L := ⟨_, rfl⟩
  go_wp2_with fail
  refine (implDivergeReport_any lv ins cl B B' A2 A3 k k' c2 c3 _ (hD.W.below (by (with_reducible repeat first | assumption | exact bl0 _ _ | refine blA ?_ _ | (refine blS ?_ ?_ _; (simp <;> omega)) | refine blD ?_ | refine blN ?_ _ | refine blF ?_ ‹_›))) (hD.G.below (by (with_reducible repeat first | assumption | exact bl0 _ _ | refine blA ?_ _ | (refine blS ?_ ?_ _; (simp <;> omega)) | refine blD ?_ | refine blN ?_ _ | refine blF ?_ ‹_›))) hD.e hD.e' (by omega) (by omega) (hD.I.below (by (with_reducible repeat first | assumption | exact bl0 _ _ | refine blA ?_ _ | (refine blS ?_ ?_ _; (simp <;> omega)) | refine blD ?_ | refine blN ?_ _ | refine blF ?_ ‹_›))) (by omega) (hS.below (by (with_reducible repeat first | assumption | exact bl0 _ _ | refine blA ?_ _ | (refine blS ?_ ?_ _; (simp <;> omega)) | refine blD ?_ | refine blN ?_ _ | refine blF ?_ ‹_›))) (by omega)).mono ?_
  unfold RetRpt
  rw [HRK.out, HRF.out, HRT.out, HRO.out]
  rintro e w2 ⟨rfl, hb2⟩
  have FD2 : Drawn lv B B' k k' ins A2 c2 w2 := Drawn.below (by (repeat (first | (with_reducible assumption) | (with_reducible refine Drawn.alloc ?_ _) | (with_reducible refine Drawn.drew ?_)))) hb2
  have FS2 : Sl w2 1 encInt A3 cl.length cl := Sl.below (by (repeat (first | (with_reducible assumption) | (with_reducible refine Sl.alloc' ?_ _) | (with_reducible refine Sl.drew' ?_)))) hb2
  have FL2 : Bk w2 L 29 #[.int .i64 lv.id, .int .i64 lv.ticks, .int .i64 lv.start.x, .int .i64 lv.start.y, .slice B lv.walls.length k, .slice B' lv.gates.length k', .int .i64 lv.fin.lo.x, .int .i64 lv.fin.lo.y, .int .i64 lv.fin.hi.x, .int .i64 lv.fin.hi.y, .int .i64 lv.bans] := Bk.later (by (repeat first | (with_reducible first | assumption | exact kN _ _ _ (by first | assumption | simp <;> omega) | refine kA ?_ _ | refine kD ?_ | refine kW ?_ _ | apply Bk.set' | refine kF ?_ (by simp <;> omega) _) | exact ⟨by with_reducible rfl⟩ | exact ⟨by simp⟩)) hb2
  have d2 : Below w.heap.size w w2 := below_after (by (with_reducible repeat first | assumption | exact bl0 _ _ | refine blA ?_ _ | (refine blS ?_ ?_ _; (simp <;> omega)) | refine blD ?_ | refine blN ?_ _ | refine blF ?_ ‹_›)) hb2
  have y2 := d2.size
  have zL2 := FL2.lt
  clear hb2 hD hS d1 y1
  obtain ⟨⟨cL0, cL1, cL2, cL3, cL4, cL5, cL6, cL7, cL8, cL9, cL10⟩, cLf⟩ := FL2.c11
  obtain ⟨O, hO⟩ : ∃ O, w2.heap.size = O := ⟨_, rfl⟩
  have qLO : L < O := by omega
  go_wp2_with fail
  refine (specDivergeReport_any lv ins cl B B' A2 A3 k k' c2 c3 _ (FD2.W.below (by (with_reducible repeat first | assumption | exact bl0 _ _ | refine blA ?_ _ | (refine blS ?_ ?_ _; (simp <;> omega)) | refine blD ?_ | refine blN ?_ _ | refine blF ?_ ‹_›))) (FD2.G.below (by (with_reducible repeat first | assumption | exact bl0 _ _ | refine blA ?_ _ | (refine blS ?_ ?_ _; (simp <;> omega)) | refine blD ?_ | refine blN ?_ _ | refine blF ?_ ‹_›))) (by omega) (by omega) (FD2.I.below (by (with_reducible repeat first | assumption | exact bl0 _ _ | refine blA ?_ _ | (refine blS ?_ ?_ _; (simp <;> omega)) | refine blD ?_ | refine blN ?_ _ | refine blF ?_ ‹_›))) (by omega) (FS2.below (by (with_reducible repeat first | assumption | exact bl0 _ _ | refine blA ?_ _ | (refine blS ?_ ?_ _; (simp <;> omega)) | refine blD ?_ | refine blN ?_ _ | refine blF ?_ ‹_›))) (by omega)).mono ?_
  unfold RetRpt
  rw [HRK.out, HRF.out, HRT.out, HRO.out]
  rintro e w3 ⟨rfl, hb3⟩
  have FD3 : Drawn lv B B' k k' ins A2 c2 w3 := Drawn.below (by (repeat (first | (with_reducible assumption) | (with_reducible refine Drawn.alloc ?_ _) | (with_reducible refine Drawn.drew ?_)))) hb3
  have FS3 : Sl w3 1 encInt A3 cl.length cl := Sl.below (by (repeat (first | (with_reducible assumption) | (with_reducible refine Sl.alloc' ?_ _) | (with_reducible refine Sl.drew' ?_)))) hb3
  have FL3 : Bk w3 L 29 #[.int .i64 lv.id, .int .i64 lv.ticks, .int .i64 lv.start.x, .int .i64 lv.start.y, .slice B lv.walls.length k, .slice B' lv.gates.length k', .int .i64 lv.fin.lo.x, .int .i64 lv.fin.lo.y, .int .i64 lv.fin.hi.x, .int .i64 lv.fin.hi.y, .int .i64 lv.bans] := Bk.later (by (repeat first | (with_reducible first | assumption | exact kN _ _ _ (by first | assumption | simp <;> omega) | refine kA ?_ _ | refine kD ?_ | refine kW ?_ _ | apply Bk.set' | refine kF ?_ (by simp <;> omega) _) | exact ⟨by with_reducible rfl⟩ | exact ⟨by simp⟩)) hb3
  have FO3 : Bk w3 O 35 #[.int .i64 rk, .int .i64 rf, .int .i64 rt] := Bk.later (by (repeat first | (with_reducible first | assumption | exact kN _ _ _ (by first | assumption | simp <;> omega) | refine kA ?_ _ | refine kD ?_ | refine kW ?_ _ | apply Bk.set' | refine kF ?_ (by simp <;> omega) _) | exact ⟨by with_reducible rfl⟩ | exact ⟨by simp⟩)) hb3
  have d3 : Below w.heap.size w w3 := below_after (by (with_reducible repeat first | assumption | exact bl0 _ _ | refine blA ?_ _ | (refine blS ?_ ?_ _; (simp <;> omega)) | refine blD ?_ | refine blN ?_ _ | refine blF ?_ ‹_›)) hb3
  have y3 := d3.size
  have zL3 := FL3.lt
  have zO3 := FO3.lt
  clear hb3 FD2 FS2 FL2 d2 y2 zL2 cL0 cL1 cL2 cL3 cL4 cL5 cL6 cL7 cL8 cL9 cL10 cLf
  obtain ⟨⟨cL0, cL1, cL2, cL3, cL4, cL5, cL6, cL7, cL8, cL9, cL10⟩, cLf⟩ := FL3.c11
  obtain ⟨⟨cO0, cO1, cO2⟩, cOf⟩ := FO3.c3
  obtain ⟨W, hW⟩ : ∃ W, w3.heap.size = W := ⟨_, rfl⟩
  have qLW : L < W := by omega
  have qOW : O < W := by omega
  cases ro
  · go_wp2
    go_ret
    exact ⟨rfl, by (with_reducible repeat first | assumption | exact bl0 _ _ | refine blA ?_ _ | (refine blS ?_ ?_ _; (simp <;> omega)) | refine blD ?_ | refine blN ?_ _ | refine blF ?_ ‹_›)⟩
  obtain ⟨hr, d, hd, ek, ef, et, hdh, hdc, htk⟩ := rep_yes HRO.out
  rw [HRK.out] at ek
  rw [HRF.out] at ef
  rw [HRT.out] at et
  have h60 := (runOk_bd hr).2.1
  have hlen := hashesR_len hr
  obtain ⟨hs, hhs⟩ : ∃ hs, hashesR lv ins = hs := ⟨_, rfl⟩
  rw [hhs] at hd hdh htk hlen
  have hl1 : hs.length ≤ ins.length / 5 := by omega
  have hl2 : ins.length / 5 ≤ hs.length := by omega
  clear hlen
  have HHS := Lib.hid hhs
  have HFD := Lib.hid hd
  have HTK := Lib.hid htk
  have HR := Lib.hid hr
  subst ek
  subst ef
  subst et
  clear hhs hd htk
  have hm : d * 5 ≤ ins.length := by omega
  have hs0 : (0 : Int) ≤ (d : Int) * 5 := by omega
  have hs1 : (d : Int) * 5 ≤ (c2 : Int) := by omega
  have hs2 : (d : Int) * 5 ≤ (ins.length : Int) := by omega
  have hmt : ((d : Int) * 5).toNat = d * 5 := by omega
  have HC := Lib.hid (hashesR_cut HR.out hm)
  rw [HHS.out, show d * 5 / 5 = d by omega] at HC
  obtain ⟨hx, hhx⟩ : ∃ hx, hashesR lv (ins.take (d * 5)) = hx := ⟨_, rfl⟩
  rw [hhx] at HC
  have HXE : Hid (hx = cl.take d) := Lib.hid (HC.out.1.trans HTK.out)
  have hxl : hx.length = d := HC.out.2
  have HHX := Lib.hid hhx
  have HHL := Lib.hid hxl
  clear hhx
  have hxc : hx.length ≤ cl.length := by omega
  have hxc2 : ((hx.length : Int) ≤ (cl.length : Int)) := by omega
  clear hxl
  go_wp2
  go_region_held3 (fun w' => (w'.cell? ⟨L, 0, none⟩ = some (.int .i64 lv.id) ∧ w'.cell? ⟨L, 1, none⟩ = some (.int .i64 lv.ticks) ∧ w'.cell? ⟨L, 2, none⟩ = some (.int .i64 lv.start.x) ∧ w'.cell? ⟨L, 3, none⟩ = some (.int .i64 lv.start.y) ∧ w'.cell? ⟨L, 4, none⟩ = some (.slice B lv.walls.length k) ∧ w'.cell? ⟨L, 5, none⟩ = some (.slice B' lv.gates.length k') ∧ w'.cell? ⟨L, 6, none⟩ = some (.int .i64 lv.fin.lo.x) ∧ w'.cell? ⟨L, 7, none⟩ = some (.int .i64 lv.fin.lo.y) ∧ w'.cell? ⟨L, 8, none⟩ = some (.int .i64 lv.fin.hi.x) ∧ w'.cell? ⟨L, 9, none⟩ = some (.int .i64 lv.fin.hi.y) ∧ w'.cell? ⟨L, 10, none⟩ = some (.int .i64 lv.bans)))
    (with_reducible exact keepLv FL3 (by (with_reducible repeat first | assumption | exact bl0 _ _ | refine blA ?_ _ | (refine blS ?_ ?_ _; (simp <;> omega)) | refine blD ?_ | refine blN ?_ _ | refine blF ?_ ‹_›)))
    ((go_at_call 14; refine (implRunHashes_take lv ins (d * 5) B B' A2 k k' c2 _ (FD3.W.below (by (with_reducible repeat first | assumption | exact bl0 _ _ | refine blA ?_ _ | (refine blS ?_ ?_ _; (simp <;> omega)) | refine blD ?_ | refine blN ?_ _ | refine blF ?_ ‹_›))) (FD3.G.below (by (with_reducible repeat first | assumption | exact bl0 _ _ | refine blA ?_ _ | (refine blS ?_ ?_ _; (simp <;> omega)) | refine blD ?_ | refine blN ?_ _ | refine blF ?_ ‹_›))) FD3.e FD3.e' (by omega) (by omega) (FD3.I.below (by (with_reducible repeat first | assumption | exact bl0 _ _ | refine blA ?_ _ | (refine blS ?_ ?_ _; (simp <;> omega)) | refine blD ?_ | refine blN ?_ _ | refine blF ?_ ‹_›))) (by omega) (by omega)).mono ?_; rw [HHX.out]; rintro e w4 ⟨A8, c8, rfl, hc8, hO8, hb4⟩))
  have d4 : Below w.heap.size w w4 := below_after (by (with_reducible repeat first | assumption | exact bl0 _ _ | refine blA ?_ _ | (refine blS ?_ ?_ _; (simp <;> omega)) | refine blD ?_ | refine blN ?_ _ | refine blF ?_ ‹_›)) hb4
  have S4 : Sl w4 1 encInt A3 cl.length cl := Sl.below (FS3.below (by (with_reducible repeat first | assumption | exact bl0 _ _ | refine blA ?_ _ | (refine blS ?_ ?_ _; (simp <;> omega)) | refine blD ?_ | refine blN ?_ _ | refine blF ?_ ‹_›))) hb4
  have hcap2 : hx.length ≤ c3 := by omega
  have hx9 := hO8.sl' encInt_len
  clear hb4 FD3 FL3 FO3 FS3 d3 hm
  go_wp2_with fail
  refine (sameInts_same A8 A3 hx.length hx.length c8 c3 hx _ (hx9.below (by (with_reducible repeat first | assumption | exact bl0 _ _ | refine blA ?_ _ | (refine blS ?_ ?_ _; (simp <;> omega)) | refine blD ?_ | refine blN ?_ _ | refine blF ?_ ‹_›))) (by have := S4.takeN hxc; rw [HHL.out, ← HXE.out, ← HHL.out] at this; exact this.below (by (with_reducible repeat first | assumption | exact bl0 _ _ | refine blA ?_ _ | (refine blS ?_ ?_ _; (simp <;> omega)) | refine blD ?_ | refine blN ?_ _ | refine blF ?_ ‹_›))) (by omega) (by omega)).mono ?_
  rintro e w5 ⟨rfl, hb5⟩
  go_wp2
  go_ret
  exact ⟨rfl, by (with_reducible repeat first | assumption | exact bl0 _ _ | refine blA ?_ _ | (refine blS ?_ ?_ _; (simp <;> omega)) | refine blD ?_ | refine blN ?_ _ | refine blF ?_ ‹_›)⟩
end Go.Proofs.YtlegilbiapbfkaaGreat
