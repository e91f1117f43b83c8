/- The law FnStepBrake: its walk. Braking slows down more than rolling. Printed by gen/lawsT.py. (Round B) -/
import Derived.Test.YtmfhfebakdkkdaaStepP
namespace Go.Proofs.Ytmfhfebakdkkdaa
open Go.ChangeShapes Go.WideShapes Go.ChangeAt Go.RowKit
set_option maxRecDepth 100000 in
set_option maxHeartbeats 8000000 in
theorem lawStepBrake (A : Option Addr) (n c : Nat) (l : List Int) (w : World) (h : Sl w 1 encU8 A n l) (hl : ∀ x ∈ l, 0 ≤ x ∧ x < 256) (hn : n ≤ 9223372036854775807) (hnc : n ≤ c) (hc : c ≤ 9223372036854775807) :
    Calls Try.prog 5 #[.slice A n c] w fun e w' => e = .returned (.bool true) ∧ Below w.heap.size w w' := by
  by_cases h1 : 1048576 < (n : Int)
  · go_enter Try.func5, Try.ntmps5
    go_wp2
    go_ret
    exact ⟨rfl, Below.refl _ _⟩
  have hEq := eqStIn
  go_enter Try.func5, Try.ntmps5
  go_wp2_with fail
  refine (drawEngineStep_any A n c l _ h hl hn hnc hc).mono ?_
  rintro e w1 ⟨lv, s, x, B, B', k, k', rfl, hD, d1⟩
  clear h hl
  have nw := hD.nw
  have ng := hD.ng
  have y1 := d1.size
  obtain ⟨sv, hsv⟩ : ∃ sv, engR lv s x = sv := ⟨_, rfl⟩
  obtain ⟨bv, hbv⟩ : ∃ bv, engOk lv s x = bv := ⟨_, rfl⟩
  have HSV := Lib.hid hsv
  have HBV := Lib.hid hbv
  obtain ⟨L, hL⟩ : ∃ L, w1.heap.size = L := ⟨_, rfl⟩
  go_wp2_with fail
  refine (implEngineStep_any lv s x B B' k k' _ (hD.W.below (by (repeat (first | (with_reducible assumption) | (with_reducible exact Below.refl _ _) | (with_reducible refine below_alloc ?_ _) | (with_reducible refine below_setCell ?_ ?_ _; (simp <;> omega)) | (with_reducible refine below_drew ?_) | (with_reducible refine below_drewN ?_ _) | (with_reducible refine below_after ?_ (by assumption)))))) (hD.G.below (by (repeat (first | (with_reducible assumption) | (with_reducible exact Below.refl _ _) | (with_reducible refine below_alloc ?_ _) | (with_reducible refine below_setCell ?_ ?_ _; (simp <;> omega)) | (with_reducible refine below_drew ?_) | (with_reducible refine below_drewN ?_ _) | (with_reducible refine below_after ?_ (by assumption)))))) hD.e hD.e' (by omega) (by omega)).mono ?_
  rw [hsv, hbv]
  rintro e w2 ⟨rfl, hb2⟩
  have FD2 : DrawnS lv B B' k k' w2 := DrawnS.below (by (repeat (first | (with_reducible assumption) | (with_reducible refine DrawnS.alloc ?_ _) | (with_reducible refine DrawnS.drew ?_)))) hb2
  have FL2 : Bk w2 L 29 #[.int .i64 lv.id, .int .i64 lv.ticks, .int .i64 lv.start.x, .int .i64 lv.start.y, .slice B lv.walls.length k, .slice B' lv.gates.length k', .int .i64 lv.fin.lo.x, .int .i64 lv.fin.lo.y, .int .i64 lv.fin.hi.x, .int .i64 lv.fin.hi.y, .int .i64 lv.bans] := Bk.later (by (repeat (first | (with_reducible assumption) | (with_reducible exact Bk.new _ _ _ (by first | assumption | (simp; done) | (simp; omega))) | (with_reducible refine Bk.alloc ?_ _) | (with_reducible refine Bk.drew ?_) | (with_reducible refine Bk.drewN ?_ _) | (with_reducible apply Bk.set') | (with_reducible refine Bk.far ?_ (by first | omega | (simp; done) | (simp; omega)) _) | (exact SetTo.mk (by with_reducible rfl)) | (exact SetTo.mk (by simp))))) hb2
  have FS2 : Bk w2 (L + 1) 31 #[.int .i64 s.t, .int .i64 s.p.x, .int .i64 s.p.y, .int .i64 s.f.x, .int .i64 s.f.y, .int .i64 s.d, .int .i64 s.g, .bool s.dn, .bool s.ov] := Bk.later (by (repeat (first | (with_reducible assumption) | (with_reducible exact Bk.new _ _ _ (by first | assumption | (simp; done) | (simp; omega))) | (with_reducible refine Bk.alloc ?_ _) | (with_reducible refine Bk.drew ?_) | (with_reducible refine Bk.drewN ?_ _) | (with_reducible apply Bk.set') | (with_reducible refine Bk.far ?_ (by first | omega | (simp; done) | (simp; omega)) _) | (exact SetTo.mk (by with_reducible rfl)) | (exact SetTo.mk (by simp))))) hb2
  have FX2 : Bk w2 (L + 1 + 1) 33 #[.int .i64 x.s, .int .i64 x.p, .bool x.z] := Bk.later (by (repeat (first | (with_reducible assumption) | (with_reducible exact Bk.new _ _ _ (by first | assumption | (simp; done) | (simp; omega))) | (with_reducible refine Bk.alloc ?_ _) | (with_reducible refine Bk.drew ?_) | (with_reducible refine Bk.drewN ?_ _) | (with_reducible apply Bk.set') | (with_reducible refine Bk.far ?_ (by first | omega | (simp; done) | (simp; omega)) _) | (exact SetTo.mk (by with_reducible rfl)) | (exact SetTo.mk (by simp))))) hb2
  have d2 : Below w.heap.size w w2 := below_after (by (repeat (first | (with_reducible assumption) | (with_reducible exact Below.refl _ _) | (with_reducible refine below_alloc ?_ _) | (with_reducible refine below_setCell ?_ ?_ _; (simp <;> omega)) | (with_reducible refine below_drew ?_) | (with_reducible refine below_drewN ?_ _) | (with_reducible refine below_after ?_ (by assumption))))) hb2
  have y2 := d2.size
  have zL2 := FL2.lt
  have zS2 := FS2.lt
  have zX2 := FX2.lt
  clear hb2 hD d1 y1
  obtain ⟨⟨cL0, cL1, cL2, cL3, cL4, cL5, cL6, cL7, cL8, cL9, cL10⟩, cLf⟩ := FL2.c11
  obtain ⟨⟨cS0, cS1, cS2, cS3, cS4, cS5, cS6, cS7, cS8⟩, cSf⟩ := FS2.c9
  obtain ⟨⟨cX0, cX1, cX2⟩, cXf⟩ := FX2.c3
  obtain ⟨O, hO⟩ : ∃ O, w2.heap.size = O := ⟨_, rfl⟩
  have qLO : L < O := by omega
  have zSO : L + 1 < O := by omega
  have zXO : L + 1 + 1 < O := by omega
  go_wp2_with fail
  refine (specEngineStep_any lv s x B B' k k' _ (FD2.W.below (by (repeat (first | (with_reducible assumption) | (with_reducible exact Below.refl _ _) | (with_reducible refine below_alloc ?_ _) | (with_reducible refine below_setCell ?_ ?_ _; (simp <;> omega)) | (with_reducible refine below_drew ?_) | (with_reducible refine below_drewN ?_ _) | (with_reducible refine below_after ?_ (by assumption)))))) (FD2.G.below (by (repeat (first | (with_reducible assumption) | (with_reducible exact Below.refl _ _) | (with_reducible refine below_alloc ?_ _) | (with_reducible refine below_setCell ?_ ?_ _; (simp <;> omega)) | (with_reducible refine below_drew ?_) | (with_reducible refine below_drewN ?_ _) | (with_reducible refine below_after ?_ (by assumption)))))) (by omega) (by omega)).mono ?_
  rw [hsv, hbv]
  clear hsv hbv
  rintro e w3 ⟨rfl, hb3⟩
  have FD3 : DrawnS lv B B' k k' w3 := DrawnS.below (by (repeat (first | (with_reducible assumption) | (with_reducible refine DrawnS.alloc ?_ _) | (with_reducible refine DrawnS.drew ?_)))) hb3
  have FL3 : Bk w3 L 29 #[.int .i64 lv.id, .int .i64 lv.ticks, .int .i64 lv.start.x, .int .i64 lv.start.y, .slice B lv.walls.length k, .slice B' lv.gates.length k', .int .i64 lv.fin.lo.x, .int .i64 lv.fin.lo.y, .int .i64 lv.fin.hi.x, .int .i64 lv.fin.hi.y, .int .i64 lv.bans] := Bk.later (by (repeat (first | (with_reducible assumption) | (with_reducible exact Bk.new _ _ _ (by first | assumption | (simp; done) | (simp; omega))) | (with_reducible refine Bk.alloc ?_ _) | (with_reducible refine Bk.drew ?_) | (with_reducible refine Bk.drewN ?_ _) | (with_reducible apply Bk.set') | (with_reducible refine Bk.far ?_ (by first | omega | (simp; done) | (simp; omega)) _) | (exact SetTo.mk (by with_reducible rfl)) | (exact SetTo.mk (by simp))))) hb3
  have FS3 : Bk w3 (L + 1) 31 #[.int .i64 s.t, .int .i64 s.p.x, .int .i64 s.p.y, .int .i64 s.f.x, .int .i64 s.f.y, .int .i64 s.d, .int .i64 s.g, .bool s.dn, .bool s.ov] := Bk.later (by (repeat (first | (with_reducible assumption) | (with_reducible exact Bk.new _ _ _ (by first | assumption | (simp; done) | (simp; omega))) | (with_reducible refine Bk.alloc ?_ _) | (with_reducible refine Bk.drew ?_) | (with_reducible refine Bk.drewN ?_ _) | (with_reducible apply Bk.set') | (with_reducible refine Bk.far ?_ (by first | omega | (simp; done) | (simp; omega)) _) | (exact SetTo.mk (by with_reducible rfl)) | (exact SetTo.mk (by simp))))) hb3
  have FO3 : Bk w3 O 31 #[.int .i64 sv.t, .int .i64 sv.p.x, .int .i64 sv.p.y, .int .i64 sv.f.x, .int .i64 sv.f.y, .int .i64 sv.d, .int .i64 sv.g, .bool sv.dn, .bool sv.ov] := Bk.later (by (repeat (first | (with_reducible assumption) | (with_reducible exact Bk.new _ _ _ (by first | assumption | (simp; done) | (simp; omega))) | (with_reducible refine Bk.alloc ?_ _) | (with_reducible refine Bk.drew ?_) | (with_reducible refine Bk.drewN ?_ _) | (with_reducible apply Bk.set') | (with_reducible refine Bk.far ?_ (by first | omega | (simp; done) | (simp; omega)) _) | (exact SetTo.mk (by with_reducible rfl)) | (exact SetTo.mk (by simp))))) hb3
  have d3 : Below w.heap.size w w3 := below_after (by (repeat (first | (with_reducible assumption) | (with_reducible exact Below.refl _ _) | (with_reducible refine below_alloc ?_ _) | (with_reducible refine below_setCell ?_ ?_ _; (simp <;> omega)) | (with_reducible refine below_drew ?_) | (with_reducible refine below_drewN ?_ _) | (with_reducible refine below_after ?_ (by assumption))))) hb3
  have y3 := d3.size
  have zL3 := FL3.lt
  have zS3 := FS3.lt
  have zO3 := FO3.lt
  clear hb3 FD2 FL2 FS2 FX2 d2 y2 zL2 zS2 zX2 cL0 cL1 cL2 cL3 cL4 cL5 cL6 cL7 cL8 cL9 cL10 cLf cS0 cS1 cS2 cS3 cS4 cS5 cS6 cS7 cS8 cSf cX0 cX1 cX2 cXf
  obtain ⟨⟨cL0, cL1, cL2, cL3, cL4, cL5, cL6, cL7, cL8, cL9, cL10⟩, cLf⟩ := FL3.c11
  obtain ⟨⟨cS0, cS1, cS2, cS3, cS4, cS5, cS6, cS7, cS8⟩, cSf⟩ := FS3.c9
  obtain ⟨⟨cO0, cO1, cO2, cO3, cO4, cO5, cO6, cO7, cO8⟩, cOf⟩ := FO3.c9
  cases bv
  · go_wp2
    go_ret
    exact ⟨rfl, by (repeat (first | (with_reducible assumption) | (with_reducible exact Below.refl _ _) | (with_reducible refine below_alloc ?_ _) | (with_reducible refine below_setCell ?_ ?_ _; (simp <;> omega)) | (with_reducible refine below_drew ?_) | (with_reducible refine below_drewN ?_ _) | (with_reducible refine below_after ?_ (by assumption))))⟩
  obtain ⟨hvs, hix, hti⟩ := engOk_iff.1 HBV.out
  have HSS : Hid (stepS lv s x = sv) := Lib.hid (by rw [← HSV.out]; unfold engR; rw [HBV.out, if_pos rfl])
  have HVS := Lib.hid hvs
  have HVO : Hid (validB lv sv = true) := Lib.hid (by rw [← HSS.out]; exact step_valid x hvs hti)
  clear hvs hix hti
  by_cases hw0 : 0 < lv.walls.length
  · have hwi : (0 : Int) < (lv.walls.length : Int) := by omega
    go_wp2
    go_ret
    exact ⟨rfl, by (repeat (first | (with_reducible assumption) | (with_reducible exact Below.refl _ _) | (with_reducible refine below_alloc ?_ _) | (with_reducible refine below_setCell ?_ ?_ _; (simp <;> omega)) | (with_reducible refine below_drew ?_) | (with_reducible refine below_drewN ?_ _) | (with_reducible refine below_after ?_ (by assumption))))⟩
  have hwi : ¬ (0 : Int) < (lv.walls.length : Int) := by omega
  have HW0 : Hid (lv.walls = []) := Lib.hid (List.length_eq_zero_iff.1 (by omega))
  clear hw0
  obtain ⟨st, sp, sf, sd, sg, sdn, sov⟩ := s
  simp only at *
  cases sdn
  rotate_left
  · go_wp2
    go_ret
    exact ⟨rfl, by (repeat (first | (with_reducible assumption) | (with_reducible exact Below.refl _ _) | (with_reducible refine below_alloc ?_ _) | (with_reducible refine below_setCell ?_ ?_ _; (simp <;> omega)) | (with_reducible refine below_drew ?_) | (with_reducible refine below_drewN ?_ _) | (with_reducible refine below_after ?_ (by assumption))))⟩
  cases sov
  rotate_left
  · go_wp2
    go_ret
    exact ⟨rfl, by (repeat (first | (with_reducible assumption) | (with_reducible exact Below.refl _ _) | (with_reducible refine below_alloc ?_ _) | (with_reducible refine below_setCell ?_ ?_ _; (simp <;> omega)) | (with_reducible refine below_drew ?_) | (with_reducible refine below_drewN ?_ _) | (with_reducible refine below_after ?_ (by assumption))))⟩
  have HE1 : Hid (engOk lv ⟨st, sp, sf, sd, sg, false, false⟩ ⟨0, 2, false⟩ = true) := Lib.hid (engOk_other HBV.out rfl)
  have HE2 : Hid (engOk lv ⟨st, sp, sf, sd, sg, false, false⟩ ⟨0, 0, false⟩ = true) := Lib.hid (engOk_other HBV.out rfl)
  obtain ⟨s1, hs1⟩ : ∃ s1, stepS lv ⟨st, sp, sf, sd, sg, false, false⟩ ⟨0, 2, false⟩ = s1 := ⟨_, rfl⟩
  obtain ⟨s2, hs2⟩ : ∃ s2, stepS lv ⟨st, sp, sf, sd, sg, false, false⟩ ⟨0, 0, false⟩ = s2 := ⟨_, rfl⟩
  have HR1 : Hid (engR lv ⟨st, sp, sf, sd, sg, false, false⟩ ⟨0, 2, false⟩ = s1) := Lib.hid (by unfold engR; rw [HE1.out, if_pos rfl, hs1])
  have HR2 : Hid (engR lv ⟨st, sp, sf, sd, sg, false, false⟩ ⟨0, 0, false⟩ = s2) := Lib.hid (by unfold engR; rw [HE2.out, if_pos rfl, hs2])
  have HO1 : Hid (ownB s1 = true) := Lib.hid (by rw [← hs1]; exact valid_own (step_valid _ HVS.out (engOk_iff.1 HE1.out).2.2))
  have HO2 : Hid (ownB s2 = true) := Lib.hid (by rw [← hs2]; exact valid_own (step_valid _ HVS.out (engOk_iff.1 HE2.out).2.2))
  have hcmp : s1.ov = false → s2.ov = false → lenV s1.f ≤ lenV s2.f := fun e1 e2 => by
    rw [← hs1] at e1 ⊢
    rw [← hs2] at e2 ⊢
    rw [step_nowall HW0.out rfl rfl e1, step_nowall HW0.out rfl rfl e2]
    exact brake_less _ _
  have HC := Lib.hid hcmp
  clear hs1 hs2 hcmp
  have hl1 := lenV_nn s1.f
  have hl2 := lenV_nn s2.f
  have hm1 := (ownB_iff.1 HO1.out).2.2.2.1
  have hm2 := (ownB_iff.1 HO2.out).2.2.2.1
  have hcon : ∀ (y : Inp) (W : World), Below w3.heap.size w3 W → Calls Try.prog 26 #[.agg #[.int .i64 lv.id, .int .i64 lv.ticks, .int .i64 lv.start.x, .int .i64 lv.start.y, .slice B 0 k, .slice B' lv.gates.length k', .int .i64 lv.fin.lo.x, .int .i64 lv.fin.lo.y, .int .i64 lv.fin.hi.x, .int .i64 lv.fin.hi.y, .int .i64 lv.bans], .agg #[.int .i64 st, .int .i64 sp.x, .int .i64 sp.y, .int .i64 sf.x, .int .i64 sf.y, .int .i64 sd, .int .i64 sg, .bool false, .bool false], .agg #[.int .i64 y.s, .int .i64 y.p, .bool y.z]] W (fun e w' => e = .returned (.tuple #[.agg #[.int .i64 (engR lv ⟨st, sp, sf, sd, sg, false, false⟩ y).t, .int .i64 (engR lv ⟨st, sp, sf, sd, sg, false, false⟩ y).p.x, .int .i64 (engR lv ⟨st, sp, sf, sd, sg, false, false⟩ y).p.y, .int .i64 (engR lv ⟨st, sp, sf, sd, sg, false, false⟩ y).f.x, .int .i64 (engR lv ⟨st, sp, sf, sd, sg, false, false⟩ y).f.y, .int .i64 (engR lv ⟨st, sp, sf, sd, sg, false, false⟩ y).d, .int .i64 (engR lv ⟨st, sp, sf, sd, sg, false, false⟩ y).g, .bool (engR lv ⟨st, sp, sf, sd, sg, false, false⟩ y).dn, .bool (engR lv ⟨st, sp, sf, sd, sg, false, false⟩ y).ov], .bool (engOk lv ⟨st, sp, sf, sd, sg, false, false⟩ y)]) ∧ Below W.heap.size W w') := fun y W hb => by
    have hx := implEngineStep_any lv ⟨st, sp, sf, sd, sg, false, false⟩ y B B' k k' W (FD3.W.below hb) (FD3.G.below hb) FD3.e FD3.e' (by omega) (by omega)
    rw [show lv.walls.length = 0 by rw [HW0.out]; rfl] at hx
    exact hx
  have HCON := Lib.hid hcon
  clear hcon
  go_wp2_with fail
  refine (HCON.out ⟨0, 2, false⟩ _ (by (repeat (first | (with_reducible assumption) | (with_reducible exact Below.refl _ _) | (with_reducible refine below_alloc ?_ _) | (with_reducible refine below_setCell ?_ ?_ _; (simp <;> omega)) | (with_reducible refine below_drew ?_) | (with_reducible refine below_drewN ?_ _) | (with_reducible refine below_after ?_ (by assumption)))))).mono ?_
  rw [HE1.out, HR1.out]
  rintro e w4 ⟨rfl, hb4⟩
  have FD4 : DrawnS lv B B' k k' w4 := DrawnS.below (by (repeat (first | (with_reducible assumption) | (with_reducible refine DrawnS.alloc ?_ _) | (with_reducible refine DrawnS.drew ?_)))) hb4
  have FL4 : Bk w4 L 29 #[.int .i64 lv.id, .int .i64 lv.ticks, .int .i64 lv.start.x, .int .i64 lv.start.y, .slice B lv.walls.length k, .slice B' lv.gates.length k', .int .i64 lv.fin.lo.x, .int .i64 lv.fin.lo.y, .int .i64 lv.fin.hi.x, .int .i64 lv.fin.hi.y, .int .i64 lv.bans] := Bk.later (by (repeat (first | (with_reducible assumption) | (with_reducible exact Bk.new _ _ _ (by first | assumption | (simp; done) | (simp; omega))) | (with_reducible refine Bk.alloc ?_ _) | (with_reducible refine Bk.drew ?_) | (with_reducible refine Bk.drewN ?_ _) | (with_reducible apply Bk.set') | (with_reducible refine Bk.far ?_ (by first | omega | (simp; done) | (simp; omega)) _) | (exact SetTo.mk (by with_reducible rfl)) | (exact SetTo.mk (by simp))))) hb4
  have FS4 : Bk w4 (L + 1) 31 #[.int .i64 st, .int .i64 sp.x, .int .i64 sp.y, .int .i64 sf.x, .int .i64 sf.y, .int .i64 sd, .int .i64 sg, .bool false, .bool false] := Bk.later (by (repeat (first | (with_reducible assumption) | (with_reducible exact Bk.new _ _ _ (by first | assumption | (simp; done) | (simp; omega))) | (with_reducible refine Bk.alloc ?_ _) | (with_reducible refine Bk.drew ?_) | (with_reducible refine Bk.drewN ?_ _) | (with_reducible apply Bk.set') | (with_reducible refine Bk.far ?_ (by first | omega | (simp; done) | (simp; omega)) _) | (exact SetTo.mk (by with_reducible rfl)) | (exact SetTo.mk (by simp))))) hb4
  have d4 : Below w.heap.size w w4 := below_after (by (repeat (first | (with_reducible assumption) | (with_reducible exact Below.refl _ _) | (with_reducible refine below_alloc ?_ _) | (with_reducible refine below_setCell ?_ ?_ _; (simp <;> omega)) | (with_reducible refine below_drew ?_) | (with_reducible refine below_drewN ?_ _) | (with_reducible refine below_after ?_ (by assumption))))) hb4
  have y4 := d4.size
  have zL4 := FL4.lt
  have zS4 := FS4.lt
  have hbw : Below w3.heap.size w3 w4 := below_after (by (repeat (first | (with_reducible assumption) | (with_reducible exact Below.refl _ _) | (with_reducible refine below_alloc ?_ _) | (with_reducible refine below_setCell ?_ ?_ _; (simp <;> omega)) | (with_reducible refine below_drew ?_) | (with_reducible refine below_drewN ?_ _) | (with_reducible refine below_after ?_ (by assumption))))) hb4
  have HBW := Lib.hid hbw
  clear hbw
  clear hb4 FD3 FL3 FS3 FO3 d3 y3 zL3 zS3 zO3 cL0 cL1 cL2 cL3 cL4 cL5 cL6 cL7 cL8 cL9 cL10 cLf cS0 cS1 cS2 cS3 cS4 cS5 cS6 cS7 cS8 cSf cO0 cO1 cO2 cO3 cO4 cO5 cO6 cO7 cO8 cOf
  obtain ⟨⟨cL0, cL1, cL2, cL3, cL4, cL5, cL6, cL7, cL8, cL9, cL10⟩, cLf⟩ := FL4.c11
  obtain ⟨⟨cS0, cS1, cS2, cS3, cS4, cS5, cS6, cS7, cS8⟩, cSf⟩ := FS4.c9
  obtain ⟨K, hK⟩ : ∃ K, w4.heap.size = K := ⟨_, rfl⟩
  have qLK : L < K := by omega
  have zSK : L + 1 < K := by omega
  have hbw := HBW.out
  go_wp2_with fail
  refine (HCON.out ⟨0, 0, false⟩ _ (by (repeat (first | (with_reducible assumption) | (with_reducible exact Below.refl _ _) | (with_reducible refine below_alloc ?_ _) | (with_reducible refine below_setCell ?_ ?_ _; (simp <;> omega)) | (with_reducible refine below_drew ?_) | (with_reducible refine below_drewN ?_ _) | (with_reducible refine below_after ?_ (by assumption)))))).mono ?_
  rw [HE2.out, HR2.out]
  rintro e w5 ⟨rfl, hb5⟩
  have FD5 : DrawnS lv B B' k k' w5 := DrawnS.below (by (repeat (first | (with_reducible assumption) | (with_reducible refine DrawnS.alloc ?_ _) | (with_reducible refine DrawnS.drew ?_)))) hb5
  have FK5 : Bk w5 K 31 #[.int .i64 s1.t, .int .i64 s1.p.x, .int .i64 s1.p.y, .int .i64 s1.f.x, .int .i64 s1.f.y, .int .i64 s1.d, .int .i64 s1.g, .bool s1.dn, .bool s1.ov] := Bk.later (by (repeat (first | (with_reducible assumption) | (with_reducible exact Bk.new _ _ _ (by first | assumption | (simp; done) | (simp; omega))) | (with_reducible refine Bk.alloc ?_ _) | (with_reducible refine Bk.drew ?_) | (with_reducible refine Bk.drewN ?_ _) | (with_reducible apply Bk.set') | (with_reducible refine Bk.far ?_ (by first | omega | (simp; done) | (simp; omega)) _) | (exact SetTo.mk (by with_reducible rfl)) | (exact SetTo.mk (by simp))))) hb5
  have d5 : Below w.heap.size w w5 := below_after (by (repeat (first | (with_reducible assumption) | (with_reducible exact Below.refl _ _) | (with_reducible refine below_alloc ?_ _) | (with_reducible refine below_setCell ?_ ?_ _; (simp <;> omega)) | (with_reducible refine below_drew ?_) | (with_reducible refine below_drewN ?_ _) | (with_reducible refine below_after ?_ (by assumption))))) hb5
  have y5 := d5.size
  have zK5 := FK5.lt
  clear hbw
  clear hb5 FD4 FL4 FS4 d4 y4 zL4 zS4 cL0 cL1 cL2 cL3 cL4 cL5 cL6 cL7 cL8 cL9 cL10 cLf cS0 cS1 cS2 cS3 cS4 cS5 cS6 cS7 cS8 cSf
  obtain ⟨⟨cK0, cK1, cK2, cK3, cK4, cK5, cK6, cK7, cK8⟩, cKf⟩ := FK5.c9
  obtain ⟨J, hJ⟩ : ∃ J, w5.heap.size = J := ⟨_, rfl⟩
  have qKJ : K < J := by omega
  go_wp2_with fail
  refine (implEngineSpeed_yes s1 _ HO1.out).mono ?_
  rintro e w6 ⟨rfl, hb6⟩
  have FD6 : DrawnS lv B B' k k' w6 := DrawnS.below (by (repeat (first | (with_reducible assumption) | (with_reducible refine DrawnS.alloc ?_ _) | (with_reducible refine DrawnS.drew ?_)))) hb6
  have FK6 : Bk w6 K 31 #[.int .i64 s1.t, .int .i64 s1.p.x, .int .i64 s1.p.y, .int .i64 s1.f.x, .int .i64 s1.f.y, .int .i64 s1.d, .int .i64 s1.g, .bool s1.dn, .bool s1.ov] := Bk.later (by (repeat (first | (with_reducible assumption) | (with_reducible exact Bk.new _ _ _ (by first | assumption | (simp; done) | (simp; omega))) | (with_reducible refine Bk.alloc ?_ _) | (with_reducible refine Bk.drew ?_) | (with_reducible refine Bk.drewN ?_ _) | (with_reducible apply Bk.set') | (with_reducible refine Bk.far ?_ (by first | omega | (simp; done) | (simp; omega)) _) | (exact SetTo.mk (by with_reducible rfl)) | (exact SetTo.mk (by simp))))) hb6
  have FJ6 : Bk w6 J 31 #[.int .i64 s2.t, .int .i64 s2.p.x, .int .i64 s2.p.y, .int .i64 s2.f.x, .int .i64 s2.f.y, .int .i64 s2.d, .int .i64 s2.g, .bool s2.dn, .bool s2.ov] := Bk.later (by (repeat (first | (with_reducible assumption) | (with_reducible exact Bk.new _ _ _ (by first | assumption | (simp; done) | (simp; omega))) | (with_reducible refine Bk.alloc ?_ _) | (with_reducible refine Bk.drew ?_) | (with_reducible refine Bk.drewN ?_ _) | (with_reducible apply Bk.set') | (with_reducible refine Bk.far ?_ (by first | omega | (simp; done) | (simp; omega)) _) | (exact SetTo.mk (by with_reducible rfl)) | (exact SetTo.mk (by simp))))) hb6
  have d6 : Below w.heap.size w w6 := below_after (by (repeat (first | (with_reducible assumption) | (with_reducible exact Below.refl _ _) | (with_reducible refine below_alloc ?_ _) | (with_reducible refine below_setCell ?_ ?_ _; (simp <;> omega)) | (with_reducible refine below_drew ?_) | (with_reducible refine below_drewN ?_ _) | (with_reducible refine below_after ?_ (by assumption))))) hb6
  have y6 := d6.size
  have zK6 := FK6.lt
  have zJ6 := FJ6.lt
  clear hb6 FD5 FK5 d5 y5 zK5 cK0 cK1 cK2 cK3 cK4 cK5 cK6 cK7 cK8 cKf
  obtain ⟨⟨cK0, cK1, cK2, cK3, cK4, cK5, cK6, cK7, cK8⟩, cKf⟩ := FK6.c9
  obtain ⟨⟨cJ0, cJ1, cJ2, cJ3, cJ4, cJ5, cJ6, cJ7, cJ8⟩, cJf⟩ := FJ6.c9
  go_wp2_with fail
  refine (implEngineSpeed_yes s2 _ HO2.out).mono ?_
  rintro e w7 ⟨rfl, hb7⟩
  have FD7 : DrawnS lv B B' k k' w7 := DrawnS.below (by (repeat (first | (with_reducible assumption) | (with_reducible refine DrawnS.alloc ?_ _) | (with_reducible refine DrawnS.drew ?_)))) hb7
  have FK7 : Bk w7 K 31 #[.int .i64 s1.t, .int .i64 s1.p.x, .int .i64 s1.p.y, .int .i64 s1.f.x, .int .i64 s1.f.y, .int .i64 s1.d, .int .i64 s1.g, .bool s1.dn, .bool s1.ov] := Bk.later (by (repeat (first | (with_reducible assumption) | (with_reducible exact Bk.new _ _ _ (by first | assumption | (simp; done) | (simp; omega))) | (with_reducible refine Bk.alloc ?_ _) | (with_reducible refine Bk.drew ?_) | (with_reducible refine Bk.drewN ?_ _) | (with_reducible apply Bk.set') | (with_reducible refine Bk.far ?_ (by first | omega | (simp; done) | (simp; omega)) _) | (exact SetTo.mk (by with_reducible rfl)) | (exact SetTo.mk (by simp))))) hb7
  have FJ7 : Bk w7 J 31 #[.int .i64 s2.t, .int .i64 s2.p.x, .int .i64 s2.p.y, .int .i64 s2.f.x, .int .i64 s2.f.y, .int .i64 s2.d, .int .i64 s2.g, .bool s2.dn, .bool s2.ov] := Bk.later (by (repeat (first | (with_reducible assumption) | (with_reducible exact Bk.new _ _ _ (by first | assumption | (simp; done) | (simp; omega))) | (with_reducible refine Bk.alloc ?_ _) | (with_reducible refine Bk.drew ?_) | (with_reducible refine Bk.drewN ?_ _) | (with_reducible apply Bk.set') | (with_reducible refine Bk.far ?_ (by first | omega | (simp; done) | (simp; omega)) _) | (exact SetTo.mk (by with_reducible rfl)) | (exact SetTo.mk (by simp))))) hb7
  have d7 : Below w.heap.size w w7 := below_after (by (repeat (first | (with_reducible assumption) | (with_reducible exact Below.refl _ _) | (with_reducible refine below_alloc ?_ _) | (with_reducible refine below_setCell ?_ ?_ _; (simp <;> omega)) | (with_reducible refine below_drew ?_) | (with_reducible refine below_drewN ?_ _) | (with_reducible refine below_after ?_ (by assumption))))) hb7
  have y7 := d7.size
  have zK7 := FK7.lt
  have zJ7 := FJ7.lt
  clear hb7 FD6 FK6 FJ6 d6 y6 zK6 zJ6 cK0 cK1 cK2 cK3 cK4 cK5 cK6 cK7 cK8 cKf cJ0 cJ1 cJ2 cJ3 cJ4 cJ5 cJ6 cJ7 cJ8 cJf
  obtain ⟨⟨cK0, cK1, cK2, cK3, cK4, cK5, cK6, cK7, cK8⟩, cKf⟩ := FK7.c9
  obtain ⟨⟨cJ0, cJ1, cJ2, cJ3, cJ4, cJ5, cJ6, cJ7, cJ8⟩, cJf⟩ := FJ7.c9
  obtain ⟨t1, p1, f1, d1_, g1, dn1, ov1⟩ := s1
  obtain ⟨t2, p2, f2, d2_, g2, dn2, ov2⟩ := s2
  simp only at *
  cases ov1
  · cases ov2
    · have hle := HC.out rfl rfl
      have hle2 : lenV f1 ≤ lenV f2 + 2 := by omega
      go_wp2
      go_ret
      exact ⟨rfl, by (repeat (first | (with_reducible assumption) | (with_reducible exact Below.refl _ _) | (with_reducible refine below_alloc ?_ _) | (with_reducible refine below_setCell ?_ ?_ _; (simp <;> omega)) | (with_reducible refine below_drew ?_) | (with_reducible refine below_drewN ?_ _) | (with_reducible refine below_after ?_ (by assumption))))⟩
    · go_wp2
      go_ret
      exact ⟨rfl, by (repeat (first | (with_reducible assumption) | (with_reducible exact Below.refl _ _) | (with_reducible refine below_alloc ?_ _) | (with_reducible refine below_setCell ?_ ?_ _; (simp <;> omega)) | (with_reducible refine below_drew ?_) | (with_reducible refine below_drewN ?_ _) | (with_reducible refine below_after ?_ (by assumption))))⟩
  · go_wp2
    go_ret
    exact ⟨rfl, by (repeat (first | (with_reducible assumption) | (with_reducible exact Below.refl _ _) | (with_reducible refine below_alloc ?_ _) | (with_reducible refine below_setCell ?_ ?_ _; (simp <;> omega)) | (with_reducible refine below_drew ?_) | (with_reducible refine below_drewN ?_ _) | (with_reducible refine below_after ?_ (by assumption))))⟩
end Go.Proofs.Ytmfhfebakdkkdaa
