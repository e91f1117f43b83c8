/- The law FnMakeSame: its walk. The player is named, not the run. Printed by gen/lawsT.py. (Round B) -/
import Derived.Test.YtmfhfebakdkkdaaGreatMkL
import Derived.Test.YtmfhfebakdkkdaaGreatDrW
namespace Go.Proofs.YtmfhfebakdkkdaaGreat
open Go.ChangeShapes Go.WideShapes Go.ChangeAt Go.RowKit
set_option maxRecDepth 100000 in
set_option maxHeartbeats 8000000 in
theorem lawMakeSame (A M : Option Addr) (n nm c cm : Nat) (l : List Int) (w : World) (h : Sl w 1 encU8 A n l) (hl : ∀ x ∈ l, 0 ≤ x ∧ x < 256) (hn : n ≤ 9223372036854775807) (hnc : n ≤ c) (hc : c ≤ 9223372036854775807) (hnm : nm ≤ 9223372036854775807) :
    Calls Tryz.prog 4 #[.slice A n c, .slice M nm cm] w fun e w' => e = .returned (.bool true) ∧ Below w.heap.size w w' := by
  by_cases h1 : 1048576 < (n : Int)
  · go_enter Tryz.func4, Tryz.ntmps4
    go_wp2
    go_ret
    exact ⟨rfl, Below.refl _ _⟩
  by_cases h2 : 1048576 < (nm : Int)
  · go_enter Tryz.func4, Tryz.ntmps4
    go_wp2
    go_ret
    exact ⟨rfl, Below.refl _ _⟩
  go_enter Tryz.func4, Tryz.ntmps4
  go_wp2_with fail
  refine (drawReplayMake_any A n c l _ h hl hn hnc hc).mono ?_
  rintro e w1 ⟨lv, B, B', k, k', pl, key, ins, A2, c2, rfl, hD, ⟨hp0, hp1⟩, ⟨hk0, hk1⟩, -, d1⟩
  clear h hl
  have nw := hD.nw
  have ng := hD.ng
  have ni := hD.ni
  have ci := hD.ci
  have y1 := d1.size
  obtain ⟨L, hL⟩ : ∃ L, w1.heap.size = L := ⟨_, rfl⟩
  cases hok : makeOk lv pl key ins
  · obtain ⟨rp, hrp⟩ : ∃ rp, makeR lv pl key ins = rp := ⟨_, rfl⟩
    have hlen := makeR_no hok
    rw [hrp] at hlen
    obtain ⟨hl1, hl2⟩ := hlen
    go_wp2_with fail
    refine ((implReplayMake_any lv pl key ins B B' A2 k k' c2 _ (hD.W.below (by (repeat (first | (with_reducible assumption) | (with_reducible exact Below.refl _ _) | (with_reducible refine below_alloc ?_ _) | (with_reducible refine below_setCell ?_ ?_ _; (simp <;> omega)) | (with_reducible refine below_drew ?_) | (with_reducible refine below_drewN ?_ _) | (with_reducible refine below_after ?_ (by assumption)))))) (hD.G.below (by (repeat (first | (with_reducible assumption) | (with_reducible exact Below.refl _ _) | (with_reducible refine below_alloc ?_ _) | (with_reducible refine below_setCell ?_ ?_ _; (simp <;> omega)) | (with_reducible refine below_drew ?_) | (with_reducible refine below_drewN ?_ _) | (with_reducible refine below_after ?_ (by assumption)))))) hD.e hD.e' (hD.I.below (by (repeat (first | (with_reducible assumption) | (with_reducible exact Below.refl _ _) | (with_reducible refine below_alloc ?_ _) | (with_reducible refine below_setCell ?_ ?_ _; (simp <;> omega)) | (with_reducible refine below_drew ?_) | (with_reducible refine below_drewN ?_ _) | (with_reducible refine below_after ?_ (by assumption)))))) hD.e2 (by omega) (by omega) (by omega)).mono (fun _ _ h => h.flip)).mono ?_
    rw [hrp, hok]
    rintro e w2 ⟨A6, c6, A7, c7, rfl, hI2, hH2, -, hb2⟩
    have FD2 : Drawn lv B B' k k' ins A2 c2 w2 := Drawn.below (by (repeat (first | (with_reducible assumption) | (with_reducible refine Drawn.alloc ?_ _) | (with_reducible refine Drawn.drew ?_)))) hb2
    have FL2 : Bk w2 L 29 #[.int .i64 lv.id, .int .i64 lv.ticks, .int .i64 lv.start.x, .int .i64 lv.start.y, .slice B lv.walls.length k, .slice B' lv.gates.length k', .int .i64 lv.fin.lo.x, .int .i64 lv.fin.lo.y, .int .i64 lv.fin.hi.x, .int .i64 lv.fin.hi.y, .int .i64 lv.bans] := Bk.later (by (repeat (first | (with_reducible assumption) | (with_reducible exact Bk.new _ _ _ (by first | assumption | (simp; done) | (simp; omega))) | (with_reducible refine Bk.alloc ?_ _) | (with_reducible refine Bk.drew ?_) | (with_reducible refine Bk.drewN ?_ _) | (with_reducible apply Bk.set') | (with_reducible refine Bk.far ?_ (by first | omega | (simp; done) | (simp; omega)) _) | (exact SetTo.mk (by with_reducible rfl)) | (exact SetTo.mk (by simp))))) hb2
    have d2 : Below w.heap.size w w2 := below_after (by (repeat (first | (with_reducible assumption) | (with_reducible exact Below.refl _ _) | (with_reducible refine below_alloc ?_ _) | (with_reducible refine below_setCell ?_ ?_ _; (simp <;> omega)) | (with_reducible refine below_drew ?_) | (with_reducible refine below_drewN ?_ _) | (with_reducible refine below_after ?_ (by assumption))))) hb2
    have y2 := d2.size
    have zL2 := FL2.lt
    have FP2 : Own w2 w1.heap.size 89 3 encInp (.slice A6 rp.ins.length c6) rp.ins := hI2.mono (by simp)
    have FH2 : Own w2 w1.heap.size 3 1 encInt (.slice A7 rp.hs.length c7) rp.hs := hH2.mono (by simp)
    clear hI2 hH2
    clear hb2 hD d1 y1
    obtain ⟨⟨cL0, cL1, cL2, cL3, cL4, cL5, cL6, cL7, cL8, cL9, cL10⟩, cLf⟩ := FL2.c11
    obtain ⟨R, hR⟩ : ∃ R, w2.heap.size = R := ⟨_, rfl⟩
    have qLR : L < R := by omega
    go_wp2_with fail
    refine ((specReplayMake_any lv pl key ins B B' A2 k k' c2 _ (FD2.W.below (by (repeat (first | (with_reducible assumption) | (with_reducible exact Below.refl _ _) | (with_reducible refine below_alloc ?_ _) | (with_reducible refine below_setCell ?_ ?_ _; (simp <;> omega)) | (with_reducible refine below_drew ?_) | (with_reducible refine below_drewN ?_ _) | (with_reducible refine below_after ?_ (by assumption)))))) (FD2.G.below (by (repeat (first | (with_reducible assumption) | (with_reducible exact Below.refl _ _) | (with_reducible refine below_alloc ?_ _) | (with_reducible refine below_setCell ?_ ?_ _; (simp <;> omega)) | (with_reducible refine below_drew ?_) | (with_reducible refine below_drewN ?_ _) | (with_reducible refine below_after ?_ (by assumption)))))) (FD2.I.below (by (repeat (first | (with_reducible assumption) | (with_reducible exact Below.refl _ _) | (with_reducible refine below_alloc ?_ _) | (with_reducible refine below_setCell ?_ ?_ _; (simp <;> omega)) | (with_reducible refine below_drew ?_) | (with_reducible refine below_drewN ?_ _) | (with_reducible refine below_after ?_ (by assumption)))))) FD2.e2 (by omega) (by omega) (by omega)).mono (fun _ _ h => h.flip)).mono ?_
    rw [hrp, hok]
    rintro e w3 ⟨A8, c8, A9, c9, rfl, hI3, hH3, -, hb3⟩
    have FD3 : Drawn lv B B' k k' ins A2 c2 w3 := Drawn.below (by (repeat (first | (with_reducible assumption) | (with_reducible refine Drawn.alloc ?_ _) | (with_reducible refine Drawn.drew ?_)))) hb3
    have FL3 : Bk w3 L 29 #[.int .i64 lv.id, .int .i64 lv.ticks, .int .i64 lv.start.x, .int .i64 lv.start.y, .slice B lv.walls.length k, .slice B' lv.gates.length k', .int .i64 lv.fin.lo.x, .int .i64 lv.fin.lo.y, .int .i64 lv.fin.hi.x, .int .i64 lv.fin.hi.y, .int .i64 lv.bans] := Bk.later (by (repeat (first | (with_reducible assumption) | (with_reducible exact Bk.new _ _ _ (by first | assumption | (simp; done) | (simp; omega))) | (with_reducible refine Bk.alloc ?_ _) | (with_reducible refine Bk.drew ?_) | (with_reducible refine Bk.drewN ?_ _) | (with_reducible apply Bk.set') | (with_reducible refine Bk.far ?_ (by first | omega | (simp; done) | (simp; omega)) _) | (exact SetTo.mk (by with_reducible rfl)) | (exact SetTo.mk (by simp))))) hb3
    have FP3 : Own w3 w1.heap.size 89 3 encInp (.slice A6 rp.ins.length c6) rp.ins := Own.later (by (repeat (first | (with_reducible assumption) | (with_reducible refine Own.alloc ?_ _) | (with_reducible refine Own.drew ?_) | (with_reducible refine Own.set (by first | omega | (simp; done) | (simp; omega)) ?_ _)))) hb3
    have FH3 : Own w3 w1.heap.size 3 1 encInt (.slice A7 rp.hs.length c7) rp.hs := Own.later (by (repeat (first | (with_reducible assumption) | (with_reducible refine Own.alloc ?_ _) | (with_reducible refine Own.drew ?_) | (with_reducible refine Own.set (by first | omega | (simp; done) | (simp; omega)) ?_ _)))) hb3
    have FR3 : Bk w3 R 35 #[.int .i64 rp.lv, .int .i64 rp.pl, .int .i64 rp.sc, .slice A6 rp.ins.length c6, .slice A7 rp.hs.length c7, .int .i64 rp.tag] := Bk.later (by (repeat (first | (with_reducible assumption) | (with_reducible exact Bk.new _ _ _ (by first | assumption | (simp; done) | (simp; omega))) | (with_reducible refine Bk.alloc ?_ _) | (with_reducible refine Bk.drew ?_) | (with_reducible refine Bk.drewN ?_ _) | (with_reducible apply Bk.set') | (with_reducible refine Bk.far ?_ (by first | omega | (simp; done) | (simp; omega)) _) | (exact SetTo.mk (by with_reducible rfl)) | (exact SetTo.mk (by simp))))) hb3
    have d3 : Below w.heap.size w w3 := below_after (by (repeat (first | (with_reducible assumption) | (with_reducible exact Below.refl _ _) | (with_reducible refine below_alloc ?_ _) | (with_reducible refine below_setCell ?_ ?_ _; (simp <;> omega)) | (with_reducible refine below_drew ?_) | (with_reducible refine below_drewN ?_ _) | (with_reducible refine below_after ?_ (by assumption))))) hb3
    have y3 := d3.size
    have zL3 := FL3.lt
    have zR3 := FR3.lt
    have FU3 : Own w3 w2.heap.size 89 3 encInp (.slice A8 rp.ins.length c8) rp.ins := hI3.mono (by simp)
    have FV3 : Own w3 w2.heap.size 3 1 encInt (.slice A9 rp.hs.length c9) rp.hs := hH3.mono (by simp)
    clear hI3 hH3
    clear hb3 FD2 FL2 FP2 FH2 d2 y2 zL2 cL0 cL1 cL2 cL3 cL4 cL5 cL6 cL7 cL8 cL9 cL10 cLf
    obtain ⟨⟨cL0, cL1, cL2, cL3, cL4, cL5, cL6, cL7, cL8, cL9, cL10⟩, cLf⟩ := FL3.c11
    obtain ⟨⟨cR0, cR1, cR2, cR3, cR4, cR5⟩, cRf⟩ := FR3.c6
    obtain ⟨Q, hQ⟩ : ∃ Q, w3.heap.size = Q := ⟨_, rfl⟩
    have qLQ : L < Q := by omega
    have qRQ : R < Q := by omega
    go_wp2_with fail
    refine (sameReplay_same rp A6 A7 A8 A9 c6 c7 c8 c9 _ ((FP3.sl' encInp_len).below (by (repeat (first | (with_reducible assumption) | (with_reducible exact Below.refl _ _) | (with_reducible refine below_alloc ?_ _) | (with_reducible refine below_setCell ?_ ?_ _; (simp <;> omega)) | (with_reducible refine below_drew ?_) | (with_reducible refine below_drewN ?_ _) | (with_reducible refine below_after ?_ (by assumption)))))) ((FH3.sl' encInt_len).below (by (repeat (first | (with_reducible assumption) | (with_reducible exact Below.refl _ _) | (with_reducible refine below_alloc ?_ _) | (with_reducible refine below_setCell ?_ ?_ _; (simp <;> omega)) | (with_reducible refine below_drew ?_) | (with_reducible refine below_drewN ?_ _) | (with_reducible refine below_after ?_ (by assumption)))))) ((FU3.sl' encInp_len).below (by (repeat (first | (with_reducible assumption) | (with_reducible exact Below.refl _ _) | (with_reducible refine below_alloc ?_ _) | (with_reducible refine below_setCell ?_ ?_ _; (simp <;> omega)) | (with_reducible refine below_drew ?_) | (with_reducible refine below_drewN ?_ _) | (with_reducible refine below_after ?_ (by assumption)))))) ((FV3.sl' encInt_len).below (by (repeat (first | (with_reducible assumption) | (with_reducible exact Below.refl _ _) | (with_reducible refine below_alloc ?_ _) | (with_reducible refine below_setCell ?_ ?_ _; (simp <;> omega)) | (with_reducible refine below_drew ?_) | (with_reducible refine below_drewN ?_ _) | (with_reducible refine below_after ?_ (by assumption)))))) (by (try dsimp only); omega) (by (try dsimp only); omega)).mono ?_
    rintro e w4 ⟨rfl, hb4⟩
    have FD4 : Drawn lv B B' k k' ins A2 c2 w4 := Drawn.below (by (repeat (first | (with_reducible assumption) | (with_reducible refine Drawn.alloc ?_ _) | (with_reducible refine Drawn.drew ?_)))) hb4
    have FP4 : Own w4 w1.heap.size 89 3 encInp (.slice A6 rp.ins.length c6) rp.ins := Own.later (by (repeat (first | (with_reducible assumption) | (with_reducible refine Own.alloc ?_ _) | (with_reducible refine Own.drew ?_) | (with_reducible refine Own.set (by first | omega | (simp; done) | (simp; omega)) ?_ _)))) hb4
    have FH4 : Own w4 w1.heap.size 3 1 encInt (.slice A7 rp.hs.length c7) rp.hs := Own.later (by (repeat (first | (with_reducible assumption) | (with_reducible refine Own.alloc ?_ _) | (with_reducible refine Own.drew ?_) | (with_reducible refine Own.set (by first | omega | (simp; done) | (simp; omega)) ?_ _)))) hb4
    have FR4 : Bk w4 R 35 #[.int .i64 rp.lv, .int .i64 rp.pl, .int .i64 rp.sc, .slice A6 rp.ins.length c6, .slice A7 rp.hs.length c7, .int .i64 rp.tag] := Bk.later (by (repeat (first | (with_reducible assumption) | (with_reducible exact Bk.new _ _ _ (by first | assumption | (simp; done) | (simp; omega))) | (with_reducible refine Bk.alloc ?_ _) | (with_reducible refine Bk.drew ?_) | (with_reducible refine Bk.drewN ?_ _) | (with_reducible apply Bk.set') | (with_reducible refine Bk.far ?_ (by first | omega | (simp; done) | (simp; omega)) _) | (exact SetTo.mk (by with_reducible rfl)) | (exact SetTo.mk (by simp))))) hb4
    have FU4 : Own w4 w2.heap.size 89 3 encInp (.slice A8 rp.ins.length c8) rp.ins := Own.later (by (repeat (first | (with_reducible assumption) | (with_reducible refine Own.alloc ?_ _) | (with_reducible refine Own.drew ?_) | (with_reducible refine Own.set (by first | omega | (simp; done) | (simp; omega)) ?_ _)))) hb4
    have FV4 : Own w4 w2.heap.size 3 1 encInt (.slice A9 rp.hs.length c9) rp.hs := Own.later (by (repeat (first | (with_reducible assumption) | (with_reducible refine Own.alloc ?_ _) | (with_reducible refine Own.drew ?_) | (with_reducible refine Own.set (by first | omega | (simp; done) | (simp; omega)) ?_ _)))) hb4
    have FQ4 : Bk w4 Q 35 #[.int .i64 rp.lv, .int .i64 rp.pl, .int .i64 rp.sc, .slice A8 rp.ins.length c8, .slice A9 rp.hs.length c9, .int .i64 rp.tag] := Bk.later (by (repeat (first | (with_reducible assumption) | (with_reducible exact Bk.new _ _ _ (by first | assumption | (simp; done) | (simp; omega))) | (with_reducible refine Bk.alloc ?_ _) | (with_reducible refine Bk.drew ?_) | (with_reducible refine Bk.drewN ?_ _) | (with_reducible apply Bk.set') | (with_reducible refine Bk.far ?_ (by first | omega | (simp; done) | (simp; omega)) _) | (exact SetTo.mk (by with_reducible rfl)) | (exact SetTo.mk (by simp))))) hb4
    have d4 : Below w.heap.size w w4 := below_after (by (repeat (first | (with_reducible assumption) | (with_reducible exact Below.refl _ _) | (with_reducible refine below_alloc ?_ _) | (with_reducible refine below_setCell ?_ ?_ _; (simp <;> omega)) | (with_reducible refine below_drew ?_) | (with_reducible refine below_drewN ?_ _) | (with_reducible refine below_after ?_ (by assumption))))) hb4
    have y4 := d4.size
    have zR4 := FR4.lt
    have zQ4 := FQ4.lt
    clear hb4 FD3 FL3 FP3 FH3 FR3 FU3 FV3 d3 y3 zL3 zR3 cL0 cL1 cL2 cL3 cL4 cL5 cL6 cL7 cL8 cL9 cL10 cLf cR0 cR1 cR2 cR3 cR4 cR5 cRf
    obtain ⟨⟨cR0, cR1, cR2, cR3, cR4, cR5⟩, cRf⟩ := FR4.c6
    obtain ⟨⟨cQ0, cQ1, cQ2, cQ3, cQ4, cQ5⟩, cQf⟩ := FQ4.c6
    go_wp2_with fail
    refine (sameReplay_same rp A6 A7 A8 A9 c6 c7 c8 c9 _ ((FP4.sl' encInp_len).below (by (repeat (first | (with_reducible assumption) | (with_reducible exact Below.refl _ _) | (with_reducible refine below_alloc ?_ _) | (with_reducible refine below_setCell ?_ ?_ _; (simp <;> omega)) | (with_reducible refine below_drew ?_) | (with_reducible refine below_drewN ?_ _) | (with_reducible refine below_after ?_ (by assumption)))))) ((FH4.sl' encInt_len).below (by (repeat (first | (with_reducible assumption) | (with_reducible exact Below.refl _ _) | (with_reducible refine below_alloc ?_ _) | (with_reducible refine below_setCell ?_ ?_ _; (simp <;> omega)) | (with_reducible refine below_drew ?_) | (with_reducible refine below_drewN ?_ _) | (with_reducible refine below_after ?_ (by assumption)))))) ((FU4.sl' encInp_len).below (by (repeat (first | (with_reducible assumption) | (with_reducible exact Below.refl _ _) | (with_reducible refine below_alloc ?_ _) | (with_reducible refine below_setCell ?_ ?_ _; (simp <;> omega)) | (with_reducible refine below_drew ?_) | (with_reducible refine below_drewN ?_ _) | (with_reducible refine below_after ?_ (by assumption)))))) ((FV4.sl' encInt_len).below (by (repeat (first | (with_reducible assumption) | (with_reducible exact Below.refl _ _) | (with_reducible refine below_alloc ?_ _) | (with_reducible refine below_setCell ?_ ?_ _; (simp <;> omega)) | (with_reducible refine below_drew ?_) | (with_reducible refine below_drewN ?_ _) | (with_reducible refine below_after ?_ (by assumption)))))) (by (try dsimp only); omega) (by (try dsimp only); omega)).mono ?_
    rintro e w5 ⟨rfl, hb5⟩
    have FD5 : Drawn lv B B' k k' ins A2 c2 w5 := Drawn.below (by (repeat (first | (with_reducible assumption) | (with_reducible refine Drawn.alloc ?_ _) | (with_reducible refine Drawn.drew ?_)))) hb5
    have FP5 : Own w5 w1.heap.size 89 3 encInp (.slice A6 rp.ins.length c6) rp.ins := Own.later (by (repeat (first | (with_reducible assumption) | (with_reducible refine Own.alloc ?_ _) | (with_reducible refine Own.drew ?_) | (with_reducible refine Own.set (by first | omega | (simp; done) | (simp; omega)) ?_ _)))) hb5
    have FH5 : Own w5 w1.heap.size 3 1 encInt (.slice A7 rp.hs.length c7) rp.hs := Own.later (by (repeat (first | (with_reducible assumption) | (with_reducible refine Own.alloc ?_ _) | (with_reducible refine Own.drew ?_) | (with_reducible refine Own.set (by first | omega | (simp; done) | (simp; omega)) ?_ _)))) hb5
    have FU5 : Own w5 w2.heap.size 89 3 encInp (.slice A8 rp.ins.length c8) rp.ins := Own.later (by (repeat (first | (with_reducible assumption) | (with_reducible refine Own.alloc ?_ _) | (with_reducible refine Own.drew ?_) | (with_reducible refine Own.set (by first | omega | (simp; done) | (simp; omega)) ?_ _)))) hb5
    have FV5 : Own w5 w2.heap.size 3 1 encInt (.slice A9 rp.hs.length c9) rp.hs := Own.later (by (repeat (first | (with_reducible assumption) | (with_reducible refine Own.alloc ?_ _) | (with_reducible refine Own.drew ?_) | (with_reducible refine Own.set (by first | omega | (simp; done) | (simp; omega)) ?_ _)))) hb5
    have d5 : Below w.heap.size w w5 := below_after (by (repeat (first | (with_reducible assumption) | (with_reducible exact Below.refl _ _) | (with_reducible refine below_alloc ?_ _) | (with_reducible refine below_setCell ?_ ?_ _; (simp <;> omega)) | (with_reducible refine below_drew ?_) | (with_reducible refine below_drewN ?_ _) | (with_reducible refine below_after ?_ (by assumption))))) hb5
    have y5 := d5.size
    clear hb5 FD4 FP4 FH4 FR4 FU4 FV4 FQ4 d4 y4 zR4 zQ4 cR0 cR1 cR2 cR3 cR4 cR5 cRf cQ0 cQ1 cQ2 cQ3 cQ4 cQ5 cQf
    go_wp2
    go_ret
    exact ⟨rfl, by (repeat (first | (with_reducible assumption) | (with_reducible exact Below.refl _ _) | (with_reducible refine below_alloc ?_ _) | (with_reducible refine below_setCell ?_ ?_ _; (simp <;> omega)) | (with_reducible refine below_drew ?_) | (with_reducible refine below_drewN ?_ _) | (with_reducible refine below_after ?_ (by assumption))))⟩
  · obtain ⟨mx, hs, tg, hrp, hmx, hhs, htg, hrk, hl1, hl2⟩ := makeR_yes hok
    have HMX := Lib.hid hmx
    have HHS := Lib.hid hhs
    have HTG := Lib.hid htg
    have HRK := Lib.hid hrk
    have HOK := Lib.hid hok
    clear hmx hhs htg hrk
    go_wp2_with fail
    refine ((implReplayMake_any lv pl key ins B B' A2 k k' c2 _ (hD.W.below (by (repeat (first | (with_reducible assumption) | (with_reducible exact Below.refl _ _) | (with_reducible refine below_alloc ?_ _) | (with_reducible refine below_setCell ?_ ?_ _; (simp <;> omega)) | (with_reducible refine below_drew ?_) | (with_reducible refine below_drewN ?_ _) | (with_reducible refine below_after ?_ (by assumption)))))) (hD.G.below (by (repeat (first | (with_reducible assumption) | (with_reducible exact Below.refl _ _) | (with_reducible refine below_alloc ?_ _) | (with_reducible refine below_setCell ?_ ?_ _; (simp <;> omega)) | (with_reducible refine below_drew ?_) | (with_reducible refine below_drewN ?_ _) | (with_reducible refine below_after ?_ (by assumption)))))) hD.e hD.e' (hD.I.below (by (repeat (first | (with_reducible assumption) | (with_reducible exact Below.refl _ _) | (with_reducible refine below_alloc ?_ _) | (with_reducible refine below_setCell ?_ ?_ _; (simp <;> omega)) | (with_reducible refine below_drew ?_) | (with_reducible refine below_drewN ?_ _) | (with_reducible refine below_after ?_ (by assumption)))))) hD.e2 (by omega) (by omega) (by omega)).mono (fun _ _ h => h.flip)).mono ?_
    rw [hrp, hok]
    dsimp only
    rintro e w2 ⟨A6, c6, A7, c7, rfl, hI2, hH2, -, hb2⟩
    have FD2 : Drawn lv B B' k k' ins A2 c2 w2 := Drawn.below (by (repeat (first | (with_reducible assumption) | (with_reducible refine Drawn.alloc ?_ _) | (with_reducible refine Drawn.drew ?_)))) hb2
    have FL2 : Bk w2 L 29 #[.int .i64 lv.id, .int .i64 lv.ticks, .int .i64 lv.start.x, .int .i64 lv.start.y, .slice B lv.walls.length k, .slice B' lv.gates.length k', .int .i64 lv.fin.lo.x, .int .i64 lv.fin.lo.y, .int .i64 lv.fin.hi.x, .int .i64 lv.fin.hi.y, .int .i64 lv.bans] := Bk.later (by (repeat (first | (with_reducible assumption) | (with_reducible exact Bk.new _ _ _ (by first | assumption | (simp; done) | (simp; omega))) | (with_reducible refine Bk.alloc ?_ _) | (with_reducible refine Bk.drew ?_) | (with_reducible refine Bk.drewN ?_ _) | (with_reducible apply Bk.set') | (with_reducible refine Bk.far ?_ (by first | omega | (simp; done) | (simp; omega)) _) | (exact SetTo.mk (by with_reducible rfl)) | (exact SetTo.mk (by simp))))) hb2
    have d2 : Below w.heap.size w w2 := below_after (by (repeat (first | (with_reducible assumption) | (with_reducible exact Below.refl _ _) | (with_reducible refine below_alloc ?_ _) | (with_reducible refine below_setCell ?_ ?_ _; (simp <;> omega)) | (with_reducible refine below_drew ?_) | (with_reducible refine below_drewN ?_ _) | (with_reducible refine below_after ?_ (by assumption))))) hb2
    have y2 := d2.size
    have zL2 := FL2.lt
    have FP2 : Own w2 w1.heap.size 89 3 encInp (.slice A6 ins.length c6) ins := hI2.mono (by simp)
    have FH2 : Own w2 w1.heap.size 3 1 encInt (.slice A7 hs.length c7) hs := hH2.mono (by simp)
    clear hI2 hH2
    clear hb2 hD d1 y1
    obtain ⟨⟨cL0, cL1, cL2, cL3, cL4, cL5, cL6, cL7, cL8, cL9, cL10⟩, cLf⟩ := FL2.c11
    obtain ⟨R, hR⟩ : ∃ R, w2.heap.size = R := ⟨_, rfl⟩
    have qLR : L < R := by omega
    go_wp2_with fail
    refine ((specReplayMake_any lv pl key ins B B' A2 k k' c2 _ (FD2.W.below (by (repeat (first | (with_reducible assumption) | (with_reducible exact Below.refl _ _) | (with_reducible refine below_alloc ?_ _) | (with_reducible refine below_setCell ?_ ?_ _; (simp <;> omega)) | (with_reducible refine below_drew ?_) | (with_reducible refine below_drewN ?_ _) | (with_reducible refine below_after ?_ (by assumption)))))) (FD2.G.below (by (repeat (first | (with_reducible assumption) | (with_reducible exact Below.refl _ _) | (with_reducible refine below_alloc ?_ _) | (with_reducible refine below_setCell ?_ ?_ _; (simp <;> omega)) | (with_reducible refine below_drew ?_) | (with_reducible refine below_drewN ?_ _) | (with_reducible refine below_after ?_ (by assumption)))))) (FD2.I.below (by (repeat (first | (with_reducible assumption) | (with_reducible exact Below.refl _ _) | (with_reducible refine below_alloc ?_ _) | (with_reducible refine below_setCell ?_ ?_ _; (simp <;> omega)) | (with_reducible refine below_drew ?_) | (with_reducible refine below_drewN ?_ _) | (with_reducible refine below_after ?_ (by assumption)))))) FD2.e2 (by omega) (by omega) (by omega)).mono (fun _ _ h => h.flip)).mono ?_
    rw [hrp, hok]
    dsimp only
    rintro e w3 ⟨A8, c8, A9, c9, rfl, hI3, hH3, -, hb3⟩
    have FD3 : Drawn lv B B' k k' ins A2 c2 w3 := Drawn.below (by (repeat (first | (with_reducible assumption) | (with_reducible refine Drawn.alloc ?_ _) | (with_reducible refine Drawn.drew ?_)))) hb3
    have FL3 : Bk w3 L 29 #[.int .i64 lv.id, .int .i64 lv.ticks, .int .i64 lv.start.x, .int .i64 lv.start.y, .slice B lv.walls.length k, .slice B' lv.gates.length k', .int .i64 lv.fin.lo.x, .int .i64 lv.fin.lo.y, .int .i64 lv.fin.hi.x, .int .i64 lv.fin.hi.y, .int .i64 lv.bans] := Bk.later (by (repeat (first | (with_reducible assumption) | (with_reducible exact Bk.new _ _ _ (by first | assumption | (simp; done) | (simp; omega))) | (with_reducible refine Bk.alloc ?_ _) | (with_reducible refine Bk.drew ?_) | (with_reducible refine Bk.drewN ?_ _) | (with_reducible apply Bk.set') | (with_reducible refine Bk.far ?_ (by first | omega | (simp; done) | (simp; omega)) _) | (exact SetTo.mk (by with_reducible rfl)) | (exact SetTo.mk (by simp))))) hb3
    have FP3 : Own w3 w1.heap.size 89 3 encInp (.slice A6 ins.length c6) ins := Own.later (by (repeat (first | (with_reducible assumption) | (with_reducible refine Own.alloc ?_ _) | (with_reducible refine Own.drew ?_) | (with_reducible refine Own.set (by first | omega | (simp; done) | (simp; omega)) ?_ _)))) hb3
    have FH3 : Own w3 w1.heap.size 3 1 encInt (.slice A7 hs.length c7) hs := Own.later (by (repeat (first | (with_reducible assumption) | (with_reducible refine Own.alloc ?_ _) | (with_reducible refine Own.drew ?_) | (with_reducible refine Own.set (by first | omega | (simp; done) | (simp; omega)) ?_ _)))) hb3
    have FR3 : Bk w3 R 35 #[.int .i64 lv.id, .int .i64 pl, .int .i64 mx, .slice A6 ins.length c6, .slice A7 hs.length c7, .int .i64 tg] := Bk.later (by (repeat (first | (with_reducible assumption) | (with_reducible exact Bk.new _ _ _ (by first | assumption | (simp; done) | (simp; omega))) | (with_reducible refine Bk.alloc ?_ _) | (with_reducible refine Bk.drew ?_) | (with_reducible refine Bk.drewN ?_ _) | (with_reducible apply Bk.set') | (with_reducible refine Bk.far ?_ (by first | omega | (simp; done) | (simp; omega)) _) | (exact SetTo.mk (by with_reducible rfl)) | (exact SetTo.mk (by simp))))) hb3
    have d3 : Below w.heap.size w w3 := below_after (by (repeat (first | (with_reducible assumption) | (with_reducible exact Below.refl _ _) | (with_reducible refine below_alloc ?_ _) | (with_reducible refine below_setCell ?_ ?_ _; (simp <;> omega)) | (with_reducible refine below_drew ?_) | (with_reducible refine below_drewN ?_ _) | (with_reducible refine below_after ?_ (by assumption))))) hb3
    have y3 := d3.size
    have zL3 := FL3.lt
    have zR3 := FR3.lt
    have FU3 : Own w3 w2.heap.size 89 3 encInp (.slice A8 ins.length c8) ins := hI3.mono (by simp)
    have FV3 : Own w3 w2.heap.size 3 1 encInt (.slice A9 hs.length c9) hs := hH3.mono (by simp)
    clear hI3 hH3
    clear hb3 FD2 FL2 FP2 FH2 d2 y2 zL2 cL0 cL1 cL2 cL3 cL4 cL5 cL6 cL7 cL8 cL9 cL10 cLf
    obtain ⟨⟨cL0, cL1, cL2, cL3, cL4, cL5, cL6, cL7, cL8, cL9, cL10⟩, cLf⟩ := FL3.c11
    obtain ⟨⟨cR0, cR1, cR2, cR3, cR4, cR5⟩, cRf⟩ := FR3.c6
    obtain ⟨Q, hQ⟩ : ∃ Q, w3.heap.size = Q := ⟨_, rfl⟩
    have qLQ : L < Q := by omega
    have qRQ : R < Q := by omega
    go_wp2_with fail
    refine (sameReplay_same ⟨lv.id, pl, mx, ins, hs, tg⟩ A6 A7 A8 A9 c6 c7 c8 c9 _ ((FP3.sl' encInp_len).below (by (repeat (first | (with_reducible assumption) | (with_reducible exact Below.refl _ _) | (with_reducible refine below_alloc ?_ _) | (with_reducible refine below_setCell ?_ ?_ _; (simp <;> omega)) | (with_reducible refine below_drew ?_) | (with_reducible refine below_drewN ?_ _) | (with_reducible refine below_after ?_ (by assumption)))))) ((FH3.sl' encInt_len).below (by (repeat (first | (with_reducible assumption) | (with_reducible exact Below.refl _ _) | (with_reducible refine below_alloc ?_ _) | (with_reducible refine below_setCell ?_ ?_ _; (simp <;> omega)) | (with_reducible refine below_drew ?_) | (with_reducible refine below_drewN ?_ _) | (with_reducible refine below_after ?_ (by assumption)))))) ((FU3.sl' encInp_len).below (by (repeat (first | (with_reducible assumption) | (with_reducible exact Below.refl _ _) | (with_reducible refine below_alloc ?_ _) | (with_reducible refine below_setCell ?_ ?_ _; (simp <;> omega)) | (with_reducible refine below_drew ?_) | (with_reducible refine below_drewN ?_ _) | (with_reducible refine below_after ?_ (by assumption)))))) ((FV3.sl' encInt_len).below (by (repeat (first | (with_reducible assumption) | (with_reducible exact Below.refl _ _) | (with_reducible refine below_alloc ?_ _) | (with_reducible refine below_setCell ?_ ?_ _; (simp <;> omega)) | (with_reducible refine below_drew ?_) | (with_reducible refine below_drewN ?_ _) | (with_reducible refine below_after ?_ (by assumption)))))) (by (try dsimp only); omega) (by (try dsimp only); omega)).mono ?_
    rintro e w4 ⟨rfl, hb4⟩
    have FD4 : Drawn lv B B' k k' ins A2 c2 w4 := Drawn.below (by (repeat (first | (with_reducible assumption) | (with_reducible refine Drawn.alloc ?_ _) | (with_reducible refine Drawn.drew ?_)))) hb4
    have FL4 : Bk w4 L 29 #[.int .i64 lv.id, .int .i64 lv.ticks, .int .i64 lv.start.x, .int .i64 lv.start.y, .slice B lv.walls.length k, .slice B' lv.gates.length k', .int .i64 lv.fin.lo.x, .int .i64 lv.fin.lo.y, .int .i64 lv.fin.hi.x, .int .i64 lv.fin.hi.y, .int .i64 lv.bans] := Bk.later (by (repeat (first | (with_reducible assumption) | (with_reducible exact Bk.new _ _ _ (by first | assumption | (simp; done) | (simp; omega))) | (with_reducible refine Bk.alloc ?_ _) | (with_reducible refine Bk.drew ?_) | (with_reducible refine Bk.drewN ?_ _) | (with_reducible apply Bk.set') | (with_reducible refine Bk.far ?_ (by first | omega | (simp; done) | (simp; omega)) _) | (exact SetTo.mk (by with_reducible rfl)) | (exact SetTo.mk (by simp))))) hb4
    have FP4 : Own w4 w1.heap.size 89 3 encInp (.slice A6 ins.length c6) ins := Own.later (by (repeat (first | (with_reducible assumption) | (with_reducible refine Own.alloc ?_ _) | (with_reducible refine Own.drew ?_) | (with_reducible refine Own.set (by first | omega | (simp; done) | (simp; omega)) ?_ _)))) hb4
    have FH4 : Own w4 w1.heap.size 3 1 encInt (.slice A7 hs.length c7) hs := Own.later (by (repeat (first | (with_reducible assumption) | (with_reducible refine Own.alloc ?_ _) | (with_reducible refine Own.drew ?_) | (with_reducible refine Own.set (by first | omega | (simp; done) | (simp; omega)) ?_ _)))) hb4
    have FR4 : Bk w4 R 35 #[.int .i64 lv.id, .int .i64 pl, .int .i64 mx, .slice A6 ins.length c6, .slice A7 hs.length c7, .int .i64 tg] := Bk.later (by (repeat (first | (with_reducible assumption) | (with_reducible exact Bk.new _ _ _ (by first | assumption | (simp; done) | (simp; omega))) | (with_reducible refine Bk.alloc ?_ _) | (with_reducible refine Bk.drew ?_) | (with_reducible refine Bk.drewN ?_ _) | (with_reducible apply Bk.set') | (with_reducible refine Bk.far ?_ (by first | omega | (simp; done) | (simp; omega)) _) | (exact SetTo.mk (by with_reducible rfl)) | (exact SetTo.mk (by simp))))) hb4
    have d4 : Below w.heap.size w w4 := below_after (by (repeat (first | (with_reducible assumption) | (with_reducible exact Below.refl _ _) | (with_reducible refine below_alloc ?_ _) | (with_reducible refine below_setCell ?_ ?_ _; (simp <;> omega)) | (with_reducible refine below_drew ?_) | (with_reducible refine below_drewN ?_ _) | (with_reducible refine below_after ?_ (by assumption))))) hb4
    have y4 := d4.size
    have zL4 := FL4.lt
    have zR4 := FR4.lt
    clear hb4 FD3 FL3 FP3 FH3 FR3 FU3 FV3 d3 y3 zL3 zR3 cL0 cL1 cL2 cL3 cL4 cL5 cL6 cL7 cL8 cL9 cL10 cLf cR0 cR1 cR2 cR3 cR4 cR5 cRf
    obtain ⟨⟨cL0, cL1, cL2, cL3, cL4, cL5, cL6, cL7, cL8, cL9, cL10⟩, cLf⟩ := FL4.c11
    obtain ⟨⟨cR0, cR1, cR2, cR3, cR4, cR5⟩, cRf⟩ := FR4.c6
    clear hrp hok
    have _ := hnm
    obtain ⟨p, hp, q0, q1⟩ : ∃ p : Int, (nm : Int) % 10 = p ∧ 0 ≤ p ∧ p ≤ 9 := ⟨_, rfl, by omega, by omega⟩
    have hok2 : makeOk lv p key ins = true := by have h := makeOk_iff.1 HOK.out; exact makeOk_iff.2 ⟨h.1, ⟨q0, q1⟩, h.2.2⟩
    obtain ⟨mx2, hs2, tg2, hrp2, hmx2, hhs2, -, -, -, -⟩ := makeR_yes hok2
    rw [hmx2, ← HMX.out, hhs2, ← HHS.out] at hrp2
    clear hmx2 hhs2
    go_wp2_with fail
    rw [hp]
    refine ((implReplayMake_any lv p key ins B B' A2 k k' c2 _ (FD4.W.below (by (repeat (first | (with_reducible assumption) | (with_reducible exact Below.refl _ _) | (with_reducible refine below_alloc ?_ _) | (with_reducible refine below_setCell ?_ ?_ _; (simp <;> omega)) | (with_reducible refine below_drew ?_) | (with_reducible refine below_drewN ?_ _) | (with_reducible refine below_after ?_ (by assumption)))))) (FD4.G.below (by (repeat (first | (with_reducible assumption) | (with_reducible exact Below.refl _ _) | (with_reducible refine below_alloc ?_ _) | (with_reducible refine below_setCell ?_ ?_ _; (simp <;> omega)) | (with_reducible refine below_drew ?_) | (with_reducible refine below_drewN ?_ _) | (with_reducible refine below_after ?_ (by assumption)))))) FD4.e FD4.e' (FD4.I.below (by (repeat (first | (with_reducible assumption) | (with_reducible exact Below.refl _ _) | (with_reducible refine below_alloc ?_ _) | (with_reducible refine below_setCell ?_ ?_ _; (simp <;> omega)) | (with_reducible refine below_drew ?_) | (with_reducible refine below_drewN ?_ _) | (with_reducible refine below_after ?_ (by assumption)))))) FD4.e2 (by omega) (by omega) (by omega)).mono (fun _ _ h => h.flip)).mono ?_
    rw [hrp2, hok2]
    dsimp only
    rintro e w5 ⟨A10, c10, A11, c11, rfl, hI5, hH5, -, hb5⟩
    have FD5 : Drawn lv B B' k k' ins A2 c2 w5 := Drawn.below (by (repeat (first | (with_reducible assumption) | (with_reducible refine Drawn.alloc ?_ _) | (with_reducible refine Drawn.drew ?_)))) hb5
    have FP5 : Own w5 w1.heap.size 89 3 encInp (.slice A6 ins.length c6) ins := Own.later (by (repeat (first | (with_reducible assumption) | (with_reducible refine Own.alloc ?_ _) | (with_reducible refine Own.drew ?_) | (with_reducible refine Own.set (by first | omega | (simp; done) | (simp; omega)) ?_ _)))) hb5
    have FH5 : Own w5 w1.heap.size 3 1 encInt (.slice A7 hs.length c7) hs := Own.later (by (repeat (first | (with_reducible assumption) | (with_reducible refine Own.alloc ?_ _) | (with_reducible refine Own.drew ?_) | (with_reducible refine Own.set (by first | omega | (simp; done) | (simp; omega)) ?_ _)))) hb5
    have FR5 : Bk w5 R 35 #[.int .i64 lv.id, .int .i64 pl, .int .i64 mx, .slice A6 ins.length c6, .slice A7 hs.length c7, .int .i64 tg] := Bk.later (by (repeat (first | (with_reducible assumption) | (with_reducible exact Bk.new _ _ _ (by first | assumption | (simp; done) | (simp; omega))) | (with_reducible refine Bk.alloc ?_ _) | (with_reducible refine Bk.drew ?_) | (with_reducible refine Bk.drewN ?_ _) | (with_reducible apply Bk.set') | (with_reducible refine Bk.far ?_ (by first | omega | (simp; done) | (simp; omega)) _) | (exact SetTo.mk (by with_reducible rfl)) | (exact SetTo.mk (by simp))))) hb5
    have d5 : Below w.heap.size w w5 := below_after (by (repeat (first | (with_reducible assumption) | (with_reducible exact Below.refl _ _) | (with_reducible refine below_alloc ?_ _) | (with_reducible refine below_setCell ?_ ?_ _; (simp <;> omega)) | (with_reducible refine below_drew ?_) | (with_reducible refine below_drewN ?_ _) | (with_reducible refine below_after ?_ (by assumption))))) hb5
    have y5 := d5.size
    have zR5 := FR5.lt
    have FM5 : Own w5 w4.heap.size 89 3 encInp (.slice A10 ins.length c10) ins := hI5.mono (by simp)
    have FN5 : Own w5 w4.heap.size 3 1 encInt (.slice A11 hs.length c11) hs := hH5.mono (by simp)
    clear hI5 hH5
    clear hb5 FD4 FL4 FP4 FH4 FR4 d4 y4 zL4 zR4 cL0 cL1 cL2 cL3 cL4 cL5 cL6 cL7 cL8 cL9 cL10 cLf cR0 cR1 cR2 cR3 cR4 cR5 cRf
    obtain ⟨⟨cR0, cR1, cR2, cR3, cR4, cR5⟩, cRf⟩ := FR5.c6
    obtain ⟨X, hX⟩ : ∃ X, w5.heap.size = X := ⟨_, rfl⟩
    have qRX : R < X := by omega
    clear hrp2 hok2
    go_wp2_with fail
    refine (sameReplay_same ⟨lv.id, pl, mx, ins, hs, tg⟩ A10 A11 A6 A7 c10 c11 c6 c7 _ ((FM5.sl' encInp_len).below (by (repeat (first | (with_reducible assumption) | (with_reducible exact Below.refl _ _) | (with_reducible refine below_alloc ?_ _) | (with_reducible refine below_setCell ?_ ?_ _; (simp <;> omega)) | (with_reducible refine below_drew ?_) | (with_reducible refine below_drewN ?_ _) | (with_reducible refine below_after ?_ (by assumption)))))) ((FN5.sl' encInt_len).below (by (repeat (first | (with_reducible assumption) | (with_reducible exact Below.refl _ _) | (with_reducible refine below_alloc ?_ _) | (with_reducible refine below_setCell ?_ ?_ _; (simp <;> omega)) | (with_reducible refine below_drew ?_) | (with_reducible refine below_drewN ?_ _) | (with_reducible refine below_after ?_ (by assumption)))))) ((FP5.sl' encInp_len).below (by (repeat (first | (with_reducible assumption) | (with_reducible exact Below.refl _ _) | (with_reducible refine below_alloc ?_ _) | (with_reducible refine below_setCell ?_ ?_ _; (simp <;> omega)) | (with_reducible refine below_drew ?_) | (with_reducible refine below_drewN ?_ _) | (with_reducible refine below_after ?_ (by assumption)))))) ((FH5.sl' encInt_len).below (by (repeat (first | (with_reducible assumption) | (with_reducible exact Below.refl _ _) | (with_reducible refine below_alloc ?_ _) | (with_reducible refine below_setCell ?_ ?_ _; (simp <;> omega)) | (with_reducible refine below_drew ?_) | (with_reducible refine below_drewN ?_ _) | (with_reducible refine below_after ?_ (by assumption)))))) (by (try dsimp only); omega) (by (try dsimp only); omega)).mono ?_
    rintro e w6 ⟨rfl, hb6⟩
    have FX6 : Bk w6 X 35 #[.int .i64 lv.id, .int .i64 p, .int .i64 mx, .slice A10 ins.length c10, .slice A11 hs.length c11, .int .i64 tg2] := Bk.later (by (repeat (first | (with_reducible assumption) | (with_reducible exact Bk.new _ _ _ (by first | assumption | (simp; done) | (simp; omega))) | (with_reducible refine Bk.alloc ?_ _) | (with_reducible refine Bk.drew ?_) | (with_reducible refine Bk.drewN ?_ _) | (with_reducible apply Bk.set') | (with_reducible refine Bk.far ?_ (by first | omega | (simp; done) | (simp; omega)) _) | (exact SetTo.mk (by with_reducible rfl)) | (exact SetTo.mk (by simp))))) hb6
    have d6 : Below w.heap.size w w6 := below_after (by (repeat (first | (with_reducible assumption) | (with_reducible exact Below.refl _ _) | (with_reducible refine below_alloc ?_ _) | (with_reducible refine below_setCell ?_ ?_ _; (simp <;> omega)) | (with_reducible refine below_drew ?_) | (with_reducible refine below_drewN ?_ _) | (with_reducible refine below_after ?_ (by assumption))))) hb6
    have y6 := d6.size
    have zX6 := FX6.lt
    clear hb6 FD5 FP5 FH5 FR5 FM5 FN5 d5 y5 zR5 cR0 cR1 cR2 cR3 cR4 cR5 cRf
    obtain ⟨⟨cX0, cX1, cX2, cX3, cX4, cX5⟩, cXf⟩ := FX6.c6
    go_wp2
    go_ret
    exact ⟨rfl, by (repeat (first | (with_reducible assumption) | (with_reducible exact Below.refl _ _) | (with_reducible refine below_alloc ?_ _) | (with_reducible refine below_setCell ?_ ?_ _; (simp <;> omega)) | (with_reducible refine below_drew ?_) | (with_reducible refine below_drewN ?_ _) | (with_reducible refine below_after ?_ (by assumption))))⟩
end Go.Proofs.YtmfhfebakdkkdaaGreat
