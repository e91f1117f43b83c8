/- The law FnStepGate: its walk. Gates are passed one after the other. Printed by gen/lawsT.py. (Round B) -/
import Derived.Test.YtmfhfebakdkkdaaStepP
namespace Go.Proofs.Ytmfhfebakdkkdaa
open Go.ChangeShapes Go.WideShapes Go.ChangeAt Go.RowKit
set_option maxRecDepth 100000 in
set_option maxHeartbeats 8000000 in
theorem lawStepGate (A : Option Addr) (n c : Nat) (l : List Int) (w : World) (h : Sl w 1 encU8 A n l) (hl : ∀ x ∈ l, 0 ≤ x ∧ x < 256) (hn : n ≤ 9223372036854775807) (hnc : n ≤ c) (hc : c ≤ 9223372036854775807) :
    Calls Try.prog 3 #[.slice A n c] w fun e w' => e = .returned (.bool true) ∧ Below w.heap.size w w' := by
  by_cases h1 : 1048576 < (n : Int)
  · go_enter Try.func3, Try.ntmps3
    go_wp2
    go_ret
    exact ⟨rfl, Below.refl _ _⟩
  have hEq := eqStIn
  go_enter Try.func3, Try.ntmps3
  go_wp2_with fail
  refine (drawEngineStep_any A n c l _ h hl hn hnc hc).mono ?_
  rintro e w1 ⟨lv, s, x, B, B', k, k', rfl, hD, d1⟩
  clear h hl
  have nw := hD.nw
  have ng := hD.ng
  have y1 := d1.size
  obtain ⟨sv, hsv⟩ : ∃ sv, engR lv s x = sv := ⟨_, rfl⟩
  obtain ⟨bv, hbv⟩ : ∃ bv, engOk lv s x = bv := ⟨_, rfl⟩
  have HSV := Lib.hid hsv
  have HBV := Lib.hid hbv
  obtain ⟨L, hL⟩ : ∃ L, w1.heap.size = L := ⟨_, rfl⟩
  go_wp2_with fail
  refine (implEngineStep_any lv s x B B' k k' _ (hD.W.below (by (repeat (first | (with_reducible assumption) | (with_reducible exact Below.refl _ _) | (with_reducible refine below_alloc ?_ _) | (with_reducible refine below_setCell ?_ ?_ _; (simp <;> omega)) | (with_reducible refine below_drew ?_) | (with_reducible refine below_drewN ?_ _) | (with_reducible refine below_after ?_ (by assumption)))))) (hD.G.below (by (repeat (first | (with_reducible assumption) | (with_reducible exact Below.refl _ _) | (with_reducible refine below_alloc ?_ _) | (with_reducible refine below_setCell ?_ ?_ _; (simp <;> omega)) | (with_reducible refine below_drew ?_) | (with_reducible refine below_drewN ?_ _) | (with_reducible refine below_after ?_ (by assumption)))))) hD.e hD.e' (by omega) (by omega)).mono ?_
  rw [hsv, hbv]
  rintro e w2 ⟨rfl, hb2⟩
  have FD2 : DrawnS lv B B' k k' w2 := DrawnS.below (by (repeat (first | (with_reducible assumption) | (with_reducible refine DrawnS.alloc ?_ _) | (with_reducible refine DrawnS.drew ?_)))) hb2
  have FL2 : Bk w2 L 29 #[.int .i64 lv.id, .int .i64 lv.ticks, .int .i64 lv.start.x, .int .i64 lv.start.y, .slice B lv.walls.length k, .slice B' lv.gates.length k', .int .i64 lv.fin.lo.x, .int .i64 lv.fin.lo.y, .int .i64 lv.fin.hi.x, .int .i64 lv.fin.hi.y, .int .i64 lv.bans] := Bk.later (by (repeat (first | (with_reducible assumption) | (with_reducible exact Bk.new _ _ _ (by first | assumption | (simp; done) | (simp; omega))) | (with_reducible refine Bk.alloc ?_ _) | (with_reducible refine Bk.drew ?_) | (with_reducible refine Bk.drewN ?_ _) | (with_reducible apply Bk.set') | (with_reducible refine Bk.far ?_ (by first | omega | (simp; done) | (simp; omega)) _) | (exact SetTo.mk (by with_reducible rfl)) | (exact SetTo.mk (by simp))))) hb2
  have FS2 : Bk w2 (L + 1) 31 #[.int .i64 s.t, .int .i64 s.p.x, .int .i64 s.p.y, .int .i64 s.f.x, .int .i64 s.f.y, .int .i64 s.d, .int .i64 s.g, .bool s.dn, .bool s.ov] := Bk.later (by (repeat (first | (with_reducible assumption) | (with_reducible exact Bk.new _ _ _ (by first | assumption | (simp; done) | (simp; omega))) | (with_reducible refine Bk.alloc ?_ _) | (with_reducible refine Bk.drew ?_) | (with_reducible refine Bk.drewN ?_ _) | (with_reducible apply Bk.set') | (with_reducible refine Bk.far ?_ (by first | omega | (simp; done) | (simp; omega)) _) | (exact SetTo.mk (by with_reducible rfl)) | (exact SetTo.mk (by simp))))) hb2
  have FX2 : Bk w2 (L + 1 + 1) 33 #[.int .i64 x.s, .int .i64 x.p, .bool x.z] := Bk.later (by (repeat (first | (with_reducible assumption) | (with_reducible exact Bk.new _ _ _ (by first | assumption | (simp; done) | (simp; omega))) | (with_reducible refine Bk.alloc ?_ _) | (with_reducible refine Bk.drew ?_) | (with_reducible refine Bk.drewN ?_ _) | (with_reducible apply Bk.set') | (with_reducible refine Bk.far ?_ (by first | omega | (simp; done) | (simp; omega)) _) | (exact SetTo.mk (by with_reducible rfl)) | (exact SetTo.mk (by simp))))) hb2
  have d2 : Below w.heap.size w w2 := below_after (by (repeat (first | (with_reducible assumption) | (with_reducible exact Below.refl _ _) | (with_reducible refine below_alloc ?_ _) | (with_reducible refine below_setCell ?_ ?_ _; (simp <;> omega)) | (with_reducible refine below_drew ?_) | (with_reducible refine below_drewN ?_ _) | (with_reducible refine below_after ?_ (by assumption))))) hb2
  have y2 := d2.size
  have zL2 := FL2.lt
  have zS2 := FS2.lt
  have zX2 := FX2.lt
  clear hb2 hD d1 y1
  obtain ⟨⟨cL0, cL1, cL2, cL3, cL4, cL5, cL6, cL7, cL8, cL9, cL10⟩, cLf⟩ := FL2.c11
  obtain ⟨⟨cS0, cS1, cS2, cS3, cS4, cS5, cS6, cS7, cS8⟩, cSf⟩ := FS2.c9
  obtain ⟨⟨cX0, cX1, cX2⟩, cXf⟩ := FX2.c3
  obtain ⟨O, hO⟩ : ∃ O, w2.heap.size = O := ⟨_, rfl⟩
  have qLO : L < O := by omega
  have zSO : L + 1 < O := by omega
  have zXO : L + 1 + 1 < O := by omega
  go_wp2_with fail
  refine (specEngineStep_any lv s x B B' k k' _ (FD2.W.below (by (repeat (first | (with_reducible assumption) | (with_reducible exact Below.refl _ _) | (with_reducible refine below_alloc ?_ _) | (with_reducible refine below_setCell ?_ ?_ _; (simp <;> omega)) | (with_reducible refine below_drew ?_) | (with_reducible refine below_drewN ?_ _) | (with_reducible refine below_after ?_ (by assumption)))))) (FD2.G.below (by (repeat (first | (with_reducible assumption) | (with_reducible exact Below.refl _ _) | (with_reducible refine below_alloc ?_ _) | (with_reducible refine below_setCell ?_ ?_ _; (simp <;> omega)) | (with_reducible refine below_drew ?_) | (with_reducible refine below_drewN ?_ _) | (with_reducible refine below_after ?_ (by assumption)))))) (by omega) (by omega)).mono ?_
  rw [hsv, hbv]
  clear hsv hbv
  rintro e w3 ⟨rfl, hb3⟩
  have FD3 : DrawnS lv B B' k k' w3 := DrawnS.below (by (repeat (first | (with_reducible assumption) | (with_reducible refine DrawnS.alloc ?_ _) | (with_reducible refine DrawnS.drew ?_)))) hb3
  have FL3 : Bk w3 L 29 #[.int .i64 lv.id, .int .i64 lv.ticks, .int .i64 lv.start.x, .int .i64 lv.start.y, .slice B lv.walls.length k, .slice B' lv.gates.length k', .int .i64 lv.fin.lo.x, .int .i64 lv.fin.lo.y, .int .i64 lv.fin.hi.x, .int .i64 lv.fin.hi.y, .int .i64 lv.bans] := Bk.later (by (repeat (first | (with_reducible assumption) | (with_reducible exact Bk.new _ _ _ (by first | assumption | (simp; done) | (simp; omega))) | (with_reducible refine Bk.alloc ?_ _) | (with_reducible refine Bk.drew ?_) | (with_reducible refine Bk.drewN ?_ _) | (with_reducible apply Bk.set') | (with_reducible refine Bk.far ?_ (by first | omega | (simp; done) | (simp; omega)) _) | (exact SetTo.mk (by with_reducible rfl)) | (exact SetTo.mk (by simp))))) hb3
  have FS3 : Bk w3 (L + 1) 31 #[.int .i64 s.t, .int .i64 s.p.x, .int .i64 s.p.y, .int .i64 s.f.x, .int .i64 s.f.y, .int .i64 s.d, .int .i64 s.g, .bool s.dn, .bool s.ov] := Bk.later (by (repeat (first | (with_reducible assumption) | (with_reducible exact Bk.new _ _ _ (by first | assumption | (simp; done) | (simp; omega))) | (with_reducible refine Bk.alloc ?_ _) | (with_reducible refine Bk.drew ?_) | (with_reducible refine Bk.drewN ?_ _) | (with_reducible apply Bk.set') | (with_reducible refine Bk.far ?_ (by first | omega | (simp; done) | (simp; omega)) _) | (exact SetTo.mk (by with_reducible rfl)) | (exact SetTo.mk (by simp))))) hb3
  have FO3 : Bk w3 O 31 #[.int .i64 sv.t, .int .i64 sv.p.x, .int .i64 sv.p.y, .int .i64 sv.f.x, .int .i64 sv.f.y, .int .i64 sv.d, .int .i64 sv.g, .bool sv.dn, .bool sv.ov] := Bk.later (by (repeat (first | (with_reducible assumption) | (with_reducible exact Bk.new _ _ _ (by first | assumption | (simp; done) | (simp; omega))) | (with_reducible refine Bk.alloc ?_ _) | (with_reducible refine Bk.drew ?_) | (with_reducible refine Bk.drewN ?_ _) | (with_reducible apply Bk.set') | (with_reducible refine Bk.far ?_ (by first | omega | (simp; done) | (simp; omega)) _) | (exact SetTo.mk (by with_reducible rfl)) | (exact SetTo.mk (by simp))))) hb3
  have d3 : Below w.heap.size w w3 := below_after (by (repeat (first | (with_reducible assumption) | (with_reducible exact Below.refl _ _) | (with_reducible refine below_alloc ?_ _) | (with_reducible refine below_setCell ?_ ?_ _; (simp <;> omega)) | (with_reducible refine below_drew ?_) | (with_reducible refine below_drewN ?_ _) | (with_reducible refine below_after ?_ (by assumption))))) hb3
  have y3 := d3.size
  have zL3 := FL3.lt
  have zS3 := FS3.lt
  have zO3 := FO3.lt
  clear hb3 FD2 FL2 FS2 FX2 d2 y2 zL2 zS2 zX2 cL0 cL1 cL2 cL3 cL4 cL5 cL6 cL7 cL8 cL9 cL10 cLf cS0 cS1 cS2 cS3 cS4 cS5 cS6 cS7 cS8 cSf cX0 cX1 cX2 cXf
  obtain ⟨⟨cL0, cL1, cL2, cL3, cL4, cL5, cL6, cL7, cL8, cL9, cL10⟩, cLf⟩ := FL3.c11
  obtain ⟨⟨cS0, cS1, cS2, cS3, cS4, cS5, cS6, cS7, cS8⟩, cSf⟩ := FS3.c9
  obtain ⟨⟨cO0, cO1, cO2, cO3, cO4, cO5, cO6, cO7, cO8⟩, cOf⟩ := FO3.c9
  cases bv
  · go_wp2
    go_ret
    exact ⟨rfl, by (repeat (first | (with_reducible assumption) | (with_reducible exact Below.refl _ _) | (with_reducible refine below_alloc ?_ _) | (with_reducible refine below_setCell ?_ ?_ _; (simp <;> omega)) | (with_reducible refine below_drew ?_) | (with_reducible refine below_drewN ?_ _) | (with_reducible refine below_after ?_ (by assumption))))⟩
  obtain ⟨hvs, hix, hti⟩ := engOk_iff.1 HBV.out
  have HSS : Hid (stepS lv s x = sv) := Lib.hid (by rw [← HSV.out]; unfold engR; rw [HBV.out, if_pos rfl])
  have HVS := Lib.hid hvs
  have HVO : Hid (validB lv sv = true) := Lib.hid (by rw [← HSS.out]; exact step_valid x hvs hti)
  clear hvs hix hti
  by_cases hgg : sv.g = s.g
  · have he : (sv.g == s.g) = true := by rw [beq_iff_eq]; exact hgg
    have HGG := Lib.hid hgg
    clear hgg
    go_wp2
    go_ret
    exact ⟨rfl, by (repeat (first | (with_reducible assumption) | (with_reducible exact Below.refl _ _) | (with_reducible refine below_alloc ?_ _) | (with_reducible refine below_setCell ?_ ?_ _; (simp <;> omega)) | (with_reducible refine below_drew ?_) | (with_reducible refine below_drewN ?_ _) | (with_reducible refine below_after ?_ (by assumption))))⟩
  have hst := step_gate1 (l := lv) (s := s) x (by rw [HSS.out]; exact hgg)
  rw [HSS.out] at hst
  obtain ⟨hs1, hs2⟩ := hst
  have hg0 : 0 ≤ s.g := (ownB_iff.1 (validB_iff.1 HVS.out).2.1).2.2.2.2.2.1.1
  have HVP := Lib.hid (ownB_iff.1 (validB_iff.1 HVO.out).2.1).2.1
  have HLO := Lib.hid (validB_iff.1 HVO.out).1
  obtain ⟨st, sp, sf, sd, sg, sdn, sov⟩ := s
  obtain ⟨ot, op, of_, od, og, odn, oov⟩ := sv
  simp only at *
  obtain ⟨u, rfl⟩ := Int.eq_ofNat_of_zero_le hg0
  subst hs1
  obtain ⟨b, hb, hhv⟩ := gateB_get hs2
  have hul : u < lv.gates.length := (List.getElem?_eq_some_iff.1 hb).1
  have HBO := Lib.hid ((levOk_iff.1 HLO.out).2.2.2.2.2.2.1 b (List.mem_of_getElem? hb))
  have HHV := Lib.hid hhv
  obtain ⟨b2, off2, y, hB, hbl2, hy, hcy⟩ := FD3.G.at_ hul
  rw [hb] at hy
  injection hy with hy
  subst hy hB
  have hne : ((u : Int) + 1 == (u : Int)) = false := by rw [beq_eq_false_iff_ne]; omega
  have hwr : IntKind.i64.wrap ((u : Int) + 1) = (u : Int) + 1 := IntWalk.i64_in _ (by omega)
  have hui : (u : Int) < (lv.gates.length : Int) := by omega
  have hu0 : (0 : Int) ≤ (u : Int) := by omega
  have r0 : w3.cell? ⟨b2, off2 + u * 4, none⟩ = some (.int .i64 b.lo.x) := hcy 0 _ rfl
  have r1 : w3.cell? ⟨b2, off2 + u * 4 + 1, none⟩ = some (.int .i64 b.lo.y) := hcy 1 _ rfl
  have r2 : w3.cell? ⟨b2, off2 + u * 4 + 2, none⟩ = some (.int .i64 b.hi.x) := hcy 2 _ rfl
  have r3 : w3.cell? ⟨b2, off2 + u * 4 + 3, none⟩ = some (.int .i64 b.hi.y) := hcy 3 _ rfl
  clear hcy hb hhv hs2 hg0 hgg
  go_wp2
  go_region_held3 (fun w' => (w'.cell? ⟨L, 5, none⟩ = some (.slice (some ⟨b2, off2, none⟩) lv.gates.length k') ∧ w'.cell? ⟨L + 1, 6, none⟩ = some (.int .i64 u)) ∧ (w'.cell? ⟨O, 1, none⟩ = some (.int .i64 op.x) ∧ w'.cell? ⟨O, 2, none⟩ = some (.int .i64 op.y) ∧ w'.cell? ⟨O, 6, none⟩ = some (.int .i64 ((u : Int) + 1))) ∧ (w'.cell? ⟨b2, off2 + u * 4, none⟩ = some (.int .i64 b.lo.x) ∧ w'.cell? ⟨b2, off2 + u * 4 + 1, none⟩ = some (.int .i64 b.lo.y) ∧ w'.cell? ⟨b2, off2 + u * 4 + 2, none⟩ = some (.int .i64 b.hi.x) ∧ w'.cell? ⟨b2, off2 + u * 4 + 3, none⟩ = some (.int .i64 b.hi.y)))
    (with_reducible exact ⟨keepC2 cL5 cS6 zL3 zS3 (by (repeat (first | (with_reducible assumption) | (with_reducible exact Below.refl _ _) | (with_reducible refine below_alloc ?_ _) | (with_reducible refine below_setCell ?_ ?_ _; (simp <;> omega)) | (with_reducible refine below_drew ?_) | (with_reducible refine below_drewN ?_ _) | (with_reducible refine below_after ?_ (by assumption))))), keepC3 cO1 cO2 cO6 zO3 zO3 zO3 (by (repeat (first | (with_reducible assumption) | (with_reducible exact Below.refl _ _) | (with_reducible refine below_alloc ?_ _) | (with_reducible refine below_setCell ?_ ?_ _; (simp <;> omega)) | (with_reducible refine below_drew ?_) | (with_reducible refine below_drewN ?_ _) | (with_reducible refine below_after ?_ (by assumption))))), keepC4 r0 r1 r2 r3 hbl2 hbl2 hbl2 hbl2 (by (repeat (first | (with_reducible assumption) | (with_reducible exact Below.refl _ _) | (with_reducible refine below_alloc ?_ _) | (with_reducible refine below_setCell ?_ ?_ _; (simp <;> omega)) | (with_reducible refine below_drew ?_) | (with_reducible refine below_drewN ?_ _) | (with_reducible refine below_after ?_ (by assumption)))))⟩)
    ((go_at_call 28; refine (implBoxHas_any b op _ HBO.out HVP.out).mono ?_; rw [HHV.out]; rintro e w5 ⟨rfl, hb5⟩))
  all_goals
    go_wp2
    go_ret
    exact ⟨rfl, by (repeat (first | (with_reducible assumption) | (with_reducible exact Below.refl _ _) | (with_reducible refine below_alloc ?_ _) | (with_reducible refine below_setCell ?_ ?_ _; (simp <;> omega)) | (with_reducible refine below_drew ?_) | (with_reducible refine below_drewN ?_ _) | (with_reducible refine below_after ?_ (by assumption))))⟩
end Go.Proofs.Ytmfhfebakdkkdaa
