/- The law FnStepSpeed: its walk. The car is never too fast. Printed by gen/lawsT.py. (Round B) -/
import Derived.Test.YtmfhfebakdkkdaaStepP
namespace Go.Proofs.Ytmfhfebakdkkdaa
open Go.ChangeShapes Go.WideShapes Go.ChangeAt Go.RowKit
set_option maxRecDepth 100000 in
set_option maxHeartbeats 8000000 in
theorem lawStepSpeed (A : Option Addr) (n c : Nat) (l : List Int) (w : World) (h : Sl w 1 encU8 A n l) (hl : ∀ x ∈ l, 0 ≤ x ∧ x < 256) (hn : n ≤ 9223372036854775807) (hnc : n ≤ c) (hc : c ≤ 9223372036854775807) :
    Calls Try.prog 6 #[.slice A n c] w fun e w' => e = .returned (.bool true) ∧ Below w.heap.size w w' := by
  by_cases h1 : 1048576 < (n : Int)
  · go_enter Try.func6, Try.ntmps6
    go_wp2
    go_ret
    exact ⟨rfl, Below.refl _ _⟩
  have hEq := eqStIn
  go_enter Try.func6, Try.ntmps6
  go_wp2_with fail
  refine (drawEngineStep_any A n c l _ h hl hn hnc hc).mono ?_
  rintro e w1 ⟨lv, s, x, B, B', k, k', rfl, hD, d1⟩
  clear h hl
  have nw := hD.nw
  have ng := hD.ng
  have y1 := d1.size
  obtain ⟨sv, hsv⟩ : ∃ sv, engR lv s x = sv := ⟨_, rfl⟩
  obtain ⟨bv, hbv⟩ : ∃ bv, engOk lv s x = bv := ⟨_, rfl⟩
  have HSV := Lib.hid hsv
  have HBV := Lib.hid hbv
  obtain ⟨L, hL⟩ : ∃ L, w1.heap.size = L := ⟨_, rfl⟩
  go_wp2_with fail
  refine (implEngineStep_any lv s x B B' k k' _ (hD.W.below (by (repeat (first | (with_reducible assumption) | (with_reducible exact Below.refl _ _) | (with_reducible refine below_alloc ?_ _) | (with_reducible refine below_setCell ?_ ?_ _; (simp <;> omega)) | (with_reducible refine below_drew ?_) | (with_reducible refine below_drewN ?_ _) | (with_reducible refine below_after ?_ (by assumption)))))) (hD.G.below (by (repeat (first | (with_reducible assumption) | (with_reducible exact Below.refl _ _) | (with_reducible refine below_alloc ?_ _) | (with_reducible refine below_setCell ?_ ?_ _; (simp <;> omega)) | (with_reducible refine below_drew ?_) | (with_reducible refine below_drewN ?_ _) | (with_reducible refine below_after ?_ (by assumption)))))) hD.e hD.e' (by omega) (by omega)).mono ?_
  rw [hsv, hbv]
  rintro e w2 ⟨rfl, hb2⟩
  have FD2 : DrawnS lv B B' k k' w2 := DrawnS.below (by (repeat (first | (with_reducible assumption) | (with_reducible refine DrawnS.alloc ?_ _) | (with_reducible refine DrawnS.drew ?_)))) hb2
  have FL2 : Bk w2 L 29 #[.int .i64 lv.id, .int .i64 lv.ticks, .int .i64 lv.start.x, .int .i64 lv.start.y, .slice B lv.walls.length k, .slice B' lv.gates.length k', .int .i64 lv.fin.lo.x, .int .i64 lv.fin.lo.y, .int .i64 lv.fin.hi.x, .int .i64 lv.fin.hi.y, .int .i64 lv.bans] := Bk.later (by (repeat (first | (with_reducible assumption) | (with_reducible exact Bk.new _ _ _ (by first | assumption | (simp; done) | (simp; omega))) | (with_reducible refine Bk.alloc ?_ _) | (with_reducible refine Bk.drew ?_) | (with_reducible refine Bk.drewN ?_ _) | (with_reducible apply Bk.set') | (with_reducible refine Bk.far ?_ (by first | omega | (simp; done) | (simp; omega)) _) | (exact SetTo.mk (by with_reducible rfl)) | (exact SetTo.mk (by simp))))) hb2
  have FS2 : Bk w2 (L + 1) 31 #[.int .i64 s.t, .int .i64 s.p.x, .int .i64 s.p.y, .int .i64 s.f.x, .int .i64 s.f.y, .int .i64 s.d, .int .i64 s.g, .bool s.dn, .bool s.ov] := Bk.later (by (repeat (first | (with_reducible assumption) | (with_reducible exact Bk.new _ _ _ (by first | assumption | (simp; done) | (simp; omega))) | (with_reducible refine Bk.alloc ?_ _) | (with_reducible refine Bk.drew ?_) | (with_reducible refine Bk.drewN ?_ _) | (with_reducible apply Bk.set') | (with_reducible refine Bk.far ?_ (by first | omega | (simp; done) | (simp; omega)) _) | (exact SetTo.mk (by with_reducible rfl)) | (exact SetTo.mk (by simp))))) hb2
  have FX2 : Bk w2 (L + 1 + 1) 33 #[.int .i64 x.s, .int .i64 x.p, .bool x.z] := Bk.later (by (repeat (first | (with_reducible assumption) | (with_reducible exact Bk.new _ _ _ (by first | assumption | (simp; done) | (simp; omega))) | (with_reducible refine Bk.alloc ?_ _) | (with_reducible refine Bk.drew ?_) | (with_reducible refine Bk.drewN ?_ _) | (with_reducible apply Bk.set') | (with_reducible refine Bk.far ?_ (by first | omega | (simp; done) | (simp; omega)) _) | (exact SetTo.mk (by with_reducible rfl)) | (exact SetTo.mk (by simp))))) hb2
  have d2 : Below w.heap.size w w2 := below_after (by (repeat (first | (with_reducible assumption) | (with_reducible exact Below.refl _ _) | (with_reducible refine below_alloc ?_ _) | (with_reducible refine below_setCell ?_ ?_ _; (simp <;> omega)) | (with_reducible refine below_drew ?_) | (with_reducible refine below_drewN ?_ _) | (with_reducible refine below_after ?_ (by assumption))))) hb2
  have y2 := d2.size
  have zL2 := FL2.lt
  have zS2 := FS2.lt
  have zX2 := FX2.lt
  clear hb2 hD d1 y1
  obtain ⟨⟨cL0, cL1, cL2, cL3, cL4, cL5, cL6, cL7, cL8, cL9, cL10⟩, cLf⟩ := FL2.c11
  obtain ⟨⟨cS0, cS1, cS2, cS3, cS4, cS5, cS6, cS7, cS8⟩, cSf⟩ := FS2.c9
  obtain ⟨⟨cX0, cX1, cX2⟩, cXf⟩ := FX2.c3
  obtain ⟨O, hO⟩ : ∃ O, w2.heap.size = O := ⟨_, rfl⟩
  have qLO : L < O := by omega
  have zSO : L + 1 < O := by omega
  have zXO : L + 1 + 1 < O := by omega
  go_wp2_with fail
  refine (specEngineStep_any lv s x B B' k k' _ (FD2.W.below (by (repeat (first | (with_reducible assumption) | (with_reducible exact Below.refl _ _) | (with_reducible refine below_alloc ?_ _) | (with_reducible refine below_setCell ?_ ?_ _; (simp <;> omega)) | (with_reducible refine below_drew ?_) | (with_reducible refine below_drewN ?_ _) | (with_reducible refine below_after ?_ (by assumption)))))) (FD2.G.below (by (repeat (first | (with_reducible assumption) | (with_reducible exact Below.refl _ _) | (with_reducible refine below_alloc ?_ _) | (with_reducible refine below_setCell ?_ ?_ _; (simp <;> omega)) | (with_reducible refine below_drew ?_) | (with_reducible refine below_drewN ?_ _) | (with_reducible refine below_after ?_ (by assumption)))))) (by omega) (by omega)).mono ?_
  rw [hsv, hbv]
  clear hsv hbv
  rintro e w3 ⟨rfl, hb3⟩
  have FD3 : DrawnS lv B B' k k' w3 := DrawnS.below (by (repeat (first | (with_reducible assumption) | (with_reducible refine DrawnS.alloc ?_ _) | (with_reducible refine DrawnS.drew ?_)))) hb3
  have FL3 : Bk w3 L 29 #[.int .i64 lv.id, .int .i64 lv.ticks, .int .i64 lv.start.x, .int .i64 lv.start.y, .slice B lv.walls.length k, .slice B' lv.gates.length k', .int .i64 lv.fin.lo.x, .int .i64 lv.fin.lo.y, .int .i64 lv.fin.hi.x, .int .i64 lv.fin.hi.y, .int .i64 lv.bans] := Bk.later (by (repeat (first | (with_reducible assumption) | (with_reducible exact Bk.new _ _ _ (by first | assumption | (simp; done) | (simp; omega))) | (with_reducible refine Bk.alloc ?_ _) | (with_reducible refine Bk.drew ?_) | (with_reducible refine Bk.drewN ?_ _) | (with_reducible apply Bk.set') | (with_reducible refine Bk.far ?_ (by first | omega | (simp; done) | (simp; omega)) _) | (exact SetTo.mk (by with_reducible rfl)) | (exact SetTo.mk (by simp))))) hb3
  have FS3 : Bk w3 (L + 1) 31 #[.int .i64 s.t, .int .i64 s.p.x, .int .i64 s.p.y, .int .i64 s.f.x, .int .i64 s.f.y, .int .i64 s.d, .int .i64 s.g, .bool s.dn, .bool s.ov] := Bk.later (by (repeat (first | (with_reducible assumption) | (with_reducible exact Bk.new _ _ _ (by first | assumption | (simp; done) | (simp; omega))) | (with_reducible refine Bk.alloc ?_ _) | (with_reducible refine Bk.drew ?_) | (with_reducible refine Bk.drewN ?_ _) | (with_reducible apply Bk.set') | (with_reducible refine Bk.far ?_ (by first | omega | (simp; done) | (simp; omega)) _) | (exact SetTo.mk (by with_reducible rfl)) | (exact SetTo.mk (by simp))))) hb3
  have FO3 : Bk w3 O 31 #[.int .i64 sv.t, .int .i64 sv.p.x, .int .i64 sv.p.y, .int .i64 sv.f.x, .int .i64 sv.f.y, .int .i64 sv.d, .int .i64 sv.g, .bool sv.dn, .bool sv.ov] := Bk.later (by (repeat (first | (with_reducible assumption) | (with_reducible exact Bk.new _ _ _ (by first | assumption | (simp; done) | (simp; omega))) | (with_reducible refine Bk.alloc ?_ _) | (with_reducible refine Bk.drew ?_) | (with_reducible refine Bk.drewN ?_ _) | (with_reducible apply Bk.set') | (with_reducible refine Bk.far ?_ (by first | omega | (simp; done) | (simp; omega)) _) | (exact SetTo.mk (by with_reducible rfl)) | (exact SetTo.mk (by simp))))) hb3
  have d3 : Below w.heap.size w w3 := below_after (by (repeat (first | (with_reducible assumption) | (with_reducible exact Below.refl _ _) | (with_reducible refine below_alloc ?_ _) | (with_reducible refine below_setCell ?_ ?_ _; (simp <;> omega)) | (with_reducible refine below_drew ?_) | (with_reducible refine below_drewN ?_ _) | (with_reducible refine below_after ?_ (by assumption))))) hb3
  have y3 := d3.size
  have zL3 := FL3.lt
  have zS3 := FS3.lt
  have zO3 := FO3.lt
  clear hb3 FD2 FL2 FS2 FX2 d2 y2 zL2 zS2 zX2 cL0 cL1 cL2 cL3 cL4 cL5 cL6 cL7 cL8 cL9 cL10 cLf cS0 cS1 cS2 cS3 cS4 cS5 cS6 cS7 cS8 cSf cX0 cX1 cX2 cXf
  obtain ⟨⟨cL0, cL1, cL2, cL3, cL4, cL5, cL6, cL7, cL8, cL9, cL10⟩, cLf⟩ := FL3.c11
  obtain ⟨⟨cS0, cS1, cS2, cS3, cS4, cS5, cS6, cS7, cS8⟩, cSf⟩ := FS3.c9
  obtain ⟨⟨cO0, cO1, cO2, cO3, cO4, cO5, cO6, cO7, cO8⟩, cOf⟩ := FO3.c9
  cases bv
  · go_wp2
    go_ret
    exact ⟨rfl, by (repeat (first | (with_reducible assumption) | (with_reducible exact Below.refl _ _) | (with_reducible refine below_alloc ?_ _) | (with_reducible refine below_setCell ?_ ?_ _; (simp <;> omega)) | (with_reducible refine below_drew ?_) | (with_reducible refine below_drewN ?_ _) | (with_reducible refine below_after ?_ (by assumption))))⟩
  obtain ⟨hvs, hix, hti⟩ := engOk_iff.1 HBV.out
  have HSS : Hid (stepS lv s x = sv) := Lib.hid (by rw [← HSV.out]; unfold engR; rw [HBV.out, if_pos rfl])
  have HVS := Lib.hid hvs
  have HVO : Hid (validB lv sv = true) := Lib.hid (by rw [← HSS.out]; exact step_valid x hvs hti)
  clear hvs hix hti
  have HOW := Lib.hid (validB_iff.1 HVO.out).2.1
  have hp1 := vOk_iff.1 (ownB_iff.1 HOW.out).2.1
  have hp0 := vOk_iff.1 (ownB_iff.1 (validB_iff.1 HVS.out).2.1).2.1
  have hln := (ownB_iff.1 HOW.out).2.2.2.1
  have hfar := step_far (l := lv) (s := s) x (ownB_iff.1 (validB_iff.1 HVS.out).2.1).2.2.2.1
  rw [HSS.out] at hfar
  obtain ⟨⟨f1, f2⟩, ⟨f3, f4⟩⟩ := hfar
  obtain ⟨a1, a2, a3, a4⟩ := hp1
  obtain ⟨b1, b2, b3, b4⟩ := hp0
  go_wp2_with fail
  refine (implEngineSpeed_yes sv _ HOW.out).mono ?_
  rintro e w4 ⟨rfl, hb4⟩
  have FD4 : DrawnS lv B B' k k' w4 := DrawnS.below (by (repeat (first | (with_reducible assumption) | (with_reducible refine DrawnS.alloc ?_ _) | (with_reducible refine DrawnS.drew ?_)))) hb4
  have FS4 : Bk w4 (L + 1) 31 #[.int .i64 s.t, .int .i64 s.p.x, .int .i64 s.p.y, .int .i64 s.f.x, .int .i64 s.f.y, .int .i64 s.d, .int .i64 s.g, .bool s.dn, .bool s.ov] := Bk.later (by (repeat (first | (with_reducible assumption) | (with_reducible exact Bk.new _ _ _ (by first | assumption | (simp; done) | (simp; omega))) | (with_reducible refine Bk.alloc ?_ _) | (with_reducible refine Bk.drew ?_) | (with_reducible refine Bk.drewN ?_ _) | (with_reducible apply Bk.set') | (with_reducible refine Bk.far ?_ (by first | omega | (simp; done) | (simp; omega)) _) | (exact SetTo.mk (by with_reducible rfl)) | (exact SetTo.mk (by simp))))) hb4
  have FO4 : Bk w4 O 31 #[.int .i64 sv.t, .int .i64 sv.p.x, .int .i64 sv.p.y, .int .i64 sv.f.x, .int .i64 sv.f.y, .int .i64 sv.d, .int .i64 sv.g, .bool sv.dn, .bool sv.ov] := Bk.later (by (repeat (first | (with_reducible assumption) | (with_reducible exact Bk.new _ _ _ (by first | assumption | (simp; done) | (simp; omega))) | (with_reducible refine Bk.alloc ?_ _) | (with_reducible refine Bk.drew ?_) | (with_reducible refine Bk.drewN ?_ _) | (with_reducible apply Bk.set') | (with_reducible refine Bk.far ?_ (by first | omega | (simp; done) | (simp; omega)) _) | (exact SetTo.mk (by with_reducible rfl)) | (exact SetTo.mk (by simp))))) hb4
  have d4 : Below w.heap.size w w4 := below_after (by (repeat (first | (with_reducible assumption) | (with_reducible exact Below.refl _ _) | (with_reducible refine below_alloc ?_ _) | (with_reducible refine below_setCell ?_ ?_ _; (simp <;> omega)) | (with_reducible refine below_drew ?_) | (with_reducible refine below_drewN ?_ _) | (with_reducible refine below_after ?_ (by assumption))))) hb4
  have y4 := d4.size
  have zS4 := FS4.lt
  have zO4 := FO4.lt
  clear hb4 FD3 FL3 FS3 FO3 d3 y3 zL3 zS3 zO3 cL0 cL1 cL2 cL3 cL4 cL5 cL6 cL7 cL8 cL9 cL10 cLf cS0 cS1 cS2 cS3 cS4 cS5 cS6 cS7 cS8 cSf cO0 cO1 cO2 cO3 cO4 cO5 cO6 cO7 cO8 cOf
  obtain ⟨⟨cS0, cS1, cS2, cS3, cS4, cS5, cS6, cS7, cS8⟩, cSf⟩ := FS4.c9
  obtain ⟨⟨cO0, cO1, cO2, cO3, cO4, cO5, cO6, cO7, cO8⟩, cOf⟩ := FO4.c9
  have m1 : -(sv.p.x - s.p.x) ≤ 2000 := by omega
  have m2 : -(sv.p.y - s.p.y) ≤ 2000 := by omega
  go_wp2
  all_goals
    go_ret
    exact ⟨rfl, by (repeat (first | (with_reducible assumption) | (with_reducible exact Below.refl _ _) | (with_reducible refine below_alloc ?_ _) | (with_reducible refine below_setCell ?_ ?_ _; (simp <;> omega)) | (with_reducible refine below_drew ?_) | (with_reducible refine below_drewN ?_ _) | (with_reducible refine below_after ?_ (by assumption))))⟩
end Go.Proofs.Ytmfhfebakdkkdaa
