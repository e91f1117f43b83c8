/- The law FnExactRunTo: its walk. Written by gen/lawrun.py. (Round B) -/
import Derived.Test.YtmfhfebakdkkdaaConvL
import Derived.Test.YtmfhfebakdkkdaaImpO
import Derived.Deep.RegionHeld3
import Derived.Deep.DeepMust
namespace Go.Proofs.Ytmfhfebakdkkdaa
open Go.ChangeShapes Go.WideShapes Go.ChangeAt Go.RowKit
set_option maxRecDepth 100000 in
set_option maxHeartbeats 4000000 in
theorem lawRunTo (l : Lev) (ins : List Inp) (k : Int) (A A' A2 : Option Addr) (c c' c2 : Nat) (w : World) (h : Sl w 4 encBx A l.walls.length l.walls) (hg : Sl w 4 encBx A' l.gates.length l.gates) (hs : Sl w 3 encInp A2 ins.length ins) (hn1 : (l.walls.length : Nat) ≤ 9223372036854775807) (hn2 : (l.gates.length : Nat) ≤ 9223372036854775807) (hn3 : (ins.length : Nat) ≤ 9223372036854775807) :
    Calls Try.prog 13 #[.agg #[.int .i64 l.id, .int .i64 l.ticks, .int .i64 l.start.x, .int .i64 l.start.y, .slice A l.walls.length c, .slice A' l.gates.length c', .int .i64 l.fin.lo.x, .int .i64 l.fin.lo.y, .int .i64 l.fin.hi.x, .int .i64 l.fin.hi.y, .int .i64 l.bans], .slice A2 ins.length c2, .int .i64 k] w fun e w' => e = .returned (.bool (true)) ∧ Below w.heap.size w w' := by
  obtain ⟨z0, z1⟩ := szLev_bd (n := l.walls.length) (n' := l.gates.length)
  obtain ⟨kz, hkz⟩ : ∃ kz, szLev l.walls.length l.gates.length 1048576 = kz := ⟨_, rfl⟩
  have HKZ := Lib.hid hkz
  have hm : ¬ kz < 0 → l.walls.length ≤ 1048576 ∧ l.gates.length ≤ 1048576 := fun h => szLev_ok (by rw [hkz]; exact h)
  rw [hkz] at z0 z1
  clear hkz
  by_cases hz : kz < 0
  · go_enter Try.func13, Try.ntmps13
    go_wp2_with (go_at_call 31; refine (szLevel_any _ _ _ _ _ _ _ _ _ _ _ _ _ _ _ _ _ (by omega) (by omega) hn1 hn2).mono ?_; rw [HKZ.out]; rintro e w1 ⟨rfl, hb1⟩)
    go_ret
    exact ⟨rfl, by (repeat (first | (with_reducible assumption) | (with_reducible exact Below.refl _ _) | (with_reducible refine below_alloc ?_ _) | (with_reducible refine below_setCell ?_ ?_ _; (simp <;> omega)) | (with_reducible refine below_drew ?_) | (with_reducible refine below_drewN ?_ _) | (with_reducible refine below_after ?_ (by assumption))))⟩
  obtain ⟨m1, m2⟩ := hm hz
  obtain ⟨kq, hkq⟩ : ∃ kq, szL ins.length kz = kq := ⟨_, rfl⟩
  have HKQ := Lib.hid hkq
  have hm3 : ¬ kq < 0 → ins.length ≤ 1048576 := fun h => szL_le z1 (by rw [hkq]; exact h)
  clear hkq hm
  by_cases hz2 : kq < 0
  · go_enter Try.func13, Try.ntmps13
    go_wp2_with fail
    refine (szLevel_any _ _ _ _ _ _ _ _ _ _ _ _ _ _ _ _ _ (by omega) (by omega) hn1 hn2).mono ?_
    rw [HKZ.out]
    rintro e w1 ⟨rfl, hb1⟩
    go_wp2_with fail
    refine (szInputS_any _ _ _ _ _ (by omega) (by omega) hn3).mono ?_
    rw [HKQ.out]
    rintro e w2 ⟨rfl, rfl⟩
    go_wp2
    go_ret
    exact ⟨rfl, by (repeat (first | (with_reducible assumption) | (with_reducible exact Below.refl _ _) | (with_reducible refine below_alloc ?_ _) | (with_reducible refine below_setCell ?_ ?_ _; (simp <;> omega)) | (with_reducible refine below_drew ?_) | (with_reducible refine below_drewN ?_ _) | (with_reducible refine below_after ?_ (by assumption))))⟩
  have m3 := hm3 hz2
  clear hm3
  go_enter Try.func13, Try.ntmps13
  go_wp2_with fail
  refine (szLevel_any _ _ _ _ _ _ _ _ _ _ _ _ _ _ _ _ _ (by omega) (by omega) hn1 hn2).mono ?_
  rw [HKZ.out]
  rintro e w1 ⟨rfl, hb1⟩
  have P1 : Bk w1 w.heap.size 48 #[.int .i64 l.id, .int .i64 l.ticks, .int .i64 l.start.x, .int .i64 l.start.y, .slice A l.walls.length c, .slice A' l.gates.length c', .int .i64 l.fin.lo.x, .int .i64 l.fin.lo.y, .int .i64 l.fin.hi.x, .int .i64 l.fin.hi.y, .int .i64 l.bans] := Bk.later (by (repeat (first | (with_reducible assumption) | (with_reducible exact Bk.new _ _ _ (by simp; done)) | (with_reducible refine Bk.alloc ?_ _) | (with_reducible refine Bk.drew ?_) | (with_reducible refine Bk.drewN ?_ _) | (with_reducible apply Bk.set') | (with_reducible refine Bk.far ?_ (by first | omega | (simp; done) | (simp; omega)) _) | (with_reducible refine Bk.later ?_ (by assumption)) | (with_reducible refine Bk.grown ?_ (by assumption) (by first | omega | (simp; done) | (simp; omega))) | (exact SetTo.mk (by with_reducible rfl)) | (exact SetTo.mk (by simp))))) hb1
  have d1 : Below w.heap.size w w1 := by (repeat (first | (with_reducible assumption) | (with_reducible exact Below.refl _ _) | (with_reducible refine below_alloc ?_ _) | (with_reducible refine below_setCell ?_ ?_ _; (simp <;> omega)) | (with_reducible refine below_drew ?_) | (with_reducible refine below_drewN ?_ _) | (with_reducible refine below_after ?_ (by assumption))))
  clear hb1
  obtain ⟨⟨p0, p1, p2, p3, p4, p5, p6, p7, p8, p9, p10⟩, pf⟩ := P1.c11
  go_wp2_with fail
  refine (szInputS_any _ _ _ _ _ (by omega) (by omega) hn3).mono ?_
  rw [HKQ.out]
  rintro e w2 ⟨rfl, rfl⟩
  go_wp2_with fail
  refine (toLevel_any l A A' c c' _ (h.below (by (repeat (first | (with_reducible assumption) | (with_reducible exact Below.refl _ _) | (with_reducible refine below_alloc ?_ _) | (with_reducible refine below_setCell ?_ ?_ _; (simp <;> omega)) | (with_reducible refine below_drew ?_) | (with_reducible refine below_drewN ?_ _) | (with_reducible refine below_after ?_ (by assumption)))))) (hg.below (by (repeat (first | (with_reducible assumption) | (with_reducible exact Below.refl _ _) | (with_reducible refine below_alloc ?_ _) | (with_reducible refine below_setCell ?_ ?_ _; (simp <;> omega)) | (with_reducible refine below_drew ?_) | (with_reducible refine below_drewN ?_ _) | (with_reducible refine below_after ?_ (by assumption)))))) (by omega) (by omega)).mono ?_
  rintro e w3 ⟨A3, c3, A3', c3', rfl, G3, G3', hb3⟩
  have P3 : Bk w3 w.heap.size 48 #[.int .i64 l.id, .int .i64 l.ticks, .int .i64 l.start.x, .int .i64 l.start.y, .slice A l.walls.length c, .slice A' l.gates.length c', .int .i64 l.fin.lo.x, .int .i64 l.fin.lo.y, .int .i64 l.fin.hi.x, .int .i64 l.fin.hi.y, .int .i64 l.bans] := Bk.later (by (repeat (first | (with_reducible assumption) | (with_reducible exact Bk.new _ _ _ (by simp; done)) | (with_reducible refine Bk.alloc ?_ _) | (with_reducible refine Bk.drew ?_) | (with_reducible refine Bk.drewN ?_ _) | (with_reducible apply Bk.set') | (with_reducible refine Bk.far ?_ (by first | omega | (simp; done) | (simp; omega)) _) | (with_reducible refine Bk.later ?_ (by assumption)) | (with_reducible refine Bk.grown ?_ (by assumption) (by first | omega | (simp; done) | (simp; omega))) | (exact SetTo.mk (by with_reducible rfl)) | (exact SetTo.mk (by simp))))) hb3
  have d3 : Below w.heap.size w w3 := by (repeat (first | (with_reducible assumption) | (with_reducible exact Below.refl _ _) | (with_reducible refine below_alloc ?_ _) | (with_reducible refine below_setCell ?_ ?_ _; (simp <;> omega)) | (with_reducible refine below_drew ?_) | (with_reducible refine below_drewN ?_ _) | (with_reducible refine below_after ?_ (by assumption))))
  clear hb3 p0 p1 p2 p3 p4 p5 p6 p7 p8 p9 p10 pf
  go_wp2_with fail
  refine (toInputS_any A2 ins.length c2 ins _ (hs.below (by (repeat (first | (with_reducible assumption) | (with_reducible exact Below.refl _ _) | (with_reducible refine below_alloc ?_ _) | (with_reducible refine below_setCell ?_ ?_ _; (simp <;> omega)) | (with_reducible refine below_drew ?_) | (with_reducible refine below_drewN ?_ _) | (with_reducible refine below_after ?_ (by assumption)))))) (by omega)).mono ?_
  rintro e w4 ⟨A4, c4, rfl, hc4, G4, hb4⟩
  have s4 : Sl w4 4 encBx A3 l.walls.length l.walls := (G3.sl encBx_len).below hb4
  have s4' : Sl w4 4 encBx A3' l.gates.length l.gates := (G3'.sl encBx_len).below hb4
  have t4 := G4.sl encInp_len
  have P4 : Bk w4 w.heap.size 48 #[.int .i64 l.id, .int .i64 l.ticks, .int .i64 l.start.x, .int .i64 l.start.y, .slice A l.walls.length c, .slice A' l.gates.length c', .int .i64 l.fin.lo.x, .int .i64 l.fin.lo.y, .int .i64 l.fin.hi.x, .int .i64 l.fin.hi.y, .int .i64 l.bans] := Bk.later (by (repeat (first | (with_reducible assumption) | (with_reducible exact Bk.new _ _ _ (by simp; done)) | (with_reducible refine Bk.alloc ?_ _) | (with_reducible refine Bk.drew ?_) | (with_reducible refine Bk.drewN ?_ _) | (with_reducible apply Bk.set') | (with_reducible refine Bk.far ?_ (by first | omega | (simp; done) | (simp; omega)) _) | (with_reducible refine Bk.later ?_ (by assumption)) | (with_reducible refine Bk.grown ?_ (by assumption) (by first | omega | (simp; done) | (simp; omega))) | (exact SetTo.mk (by with_reducible rfl)) | (exact SetTo.mk (by simp))))) hb4
  have d4 : Below w.heap.size w w4 := by (repeat (first | (with_reducible assumption) | (with_reducible exact Below.refl _ _) | (with_reducible refine below_alloc ?_ _) | (with_reducible refine below_setCell ?_ ?_ _; (simp <;> omega)) | (with_reducible refine below_drew ?_) | (with_reducible refine below_drewN ?_ _) | (with_reducible refine below_after ?_ (by assumption))))
  clear hb4 P1 P3 d1 d3 G3 G3' G4
  go_wp2_with fail
  refine (specRunTo_any l ins k A3 A3' A4 c3 c3' c4 _ s4 s4' t4 hn1 hn2 hn3).mono ?_
  obtain ⟨sv, hsv⟩ : ∃ sv, toR l ins k = sv := ⟨_, rfl⟩
  obtain ⟨bv, hbv⟩ : ∃ bv, toOk l ins k = bv := ⟨_, rfl⟩
  rw [hsv, hbv]
  have HSV := Lib.hid hsv
  have HBV := Lib.hid hbv
  clear hsv hbv
  rintro e w5 ⟨rfl, hb5⟩
  have P5 : Bk w5 w.heap.size 48 #[.int .i64 l.id, .int .i64 l.ticks, .int .i64 l.start.x, .int .i64 l.start.y, .slice A l.walls.length c, .slice A' l.gates.length c', .int .i64 l.fin.lo.x, .int .i64 l.fin.lo.y, .int .i64 l.fin.hi.x, .int .i64 l.fin.hi.y, .int .i64 l.bans] := Bk.later (by (repeat (first | (with_reducible assumption) | (with_reducible exact Bk.new _ _ _ (by simp; done)) | (with_reducible refine Bk.alloc ?_ _) | (with_reducible refine Bk.drew ?_) | (with_reducible refine Bk.drewN ?_ _) | (with_reducible apply Bk.set') | (with_reducible refine Bk.far ?_ (by first | omega | (simp; done) | (simp; omega)) _) | (with_reducible refine Bk.later ?_ (by assumption)) | (with_reducible refine Bk.grown ?_ (by assumption) (by first | omega | (simp; done) | (simp; omega))) | (exact SetTo.mk (by with_reducible rfl)) | (exact SetTo.mk (by simp))))) hb5
  have d5 : Below w.heap.size w w5 := by (repeat (first | (with_reducible assumption) | (with_reducible exact Below.refl _ _) | (with_reducible refine below_alloc ?_ _) | (with_reducible refine below_setCell ?_ ?_ _; (simp <;> omega)) | (with_reducible refine below_drew ?_) | (with_reducible refine below_drewN ?_ _) | (with_reducible refine below_after ?_ (by assumption))))
  clear hb5 P4 d4 s4 s4' t4
  obtain ⟨⟨p0, p1, p2, p3, p4, p5, p6, p7, p8, p9, p10⟩, pf⟩ := P5.c11
  have y5 := P5.lt
  go_wp2_with fail
  refine (toLevel_any l A A' c c' _ (h.below (by (repeat (first | (with_reducible assumption) | (with_reducible exact Below.refl _ _) | (with_reducible refine below_alloc ?_ _) | (with_reducible refine below_setCell ?_ ?_ _; (simp <;> omega)) | (with_reducible refine below_drew ?_) | (with_reducible refine below_drewN ?_ _) | (with_reducible refine below_after ?_ (by assumption)))))) (hg.below (by (repeat (first | (with_reducible assumption) | (with_reducible exact Below.refl _ _) | (with_reducible refine below_alloc ?_ _) | (with_reducible refine below_setCell ?_ ?_ _; (simp <;> omega)) | (with_reducible refine below_drew ?_) | (with_reducible refine below_drewN ?_ _) | (with_reducible refine below_after ?_ (by assumption)))))) (by omega) (by omega)).mono ?_
  rintro e w6 ⟨A6, c6, A6', c6', rfl, G6, G6', hb6⟩
  have S6 : Bk w6 w5.heap.size 31 #[.int .i64 sv.t, .int .i64 sv.p.x, .int .i64 sv.p.y, .int .i64 sv.f.x, .int .i64 sv.f.y, .int .i64 sv.d, .int .i64 sv.g, .bool sv.dn, .bool sv.ov] := Bk.later (by (repeat (first | (with_reducible assumption) | (with_reducible exact Bk.new _ _ _ (by simp; done)) | (with_reducible refine Bk.alloc ?_ _) | (with_reducible refine Bk.drew ?_) | (with_reducible refine Bk.drewN ?_ _) | (with_reducible apply Bk.set') | (with_reducible refine Bk.far ?_ (by first | omega | (simp; done) | (simp; omega)) _) | (with_reducible refine Bk.later ?_ (by assumption)) | (with_reducible refine Bk.grown ?_ (by assumption) (by first | omega | (simp; done) | (simp; omega))) | (exact SetTo.mk (by with_reducible rfl)) | (exact SetTo.mk (by simp))))) hb6
  have P6 : Bk w6 w.heap.size 48 #[.int .i64 l.id, .int .i64 l.ticks, .int .i64 l.start.x, .int .i64 l.start.y, .slice A l.walls.length c, .slice A' l.gates.length c', .int .i64 l.fin.lo.x, .int .i64 l.fin.lo.y, .int .i64 l.fin.hi.x, .int .i64 l.fin.hi.y, .int .i64 l.bans] := Bk.later (by (repeat (first | (with_reducible assumption) | (with_reducible exact Bk.new _ _ _ (by simp; done)) | (with_reducible refine Bk.alloc ?_ _) | (with_reducible refine Bk.drew ?_) | (with_reducible refine Bk.drewN ?_ _) | (with_reducible apply Bk.set') | (with_reducible refine Bk.far ?_ (by first | omega | (simp; done) | (simp; omega)) _) | (with_reducible refine Bk.later ?_ (by assumption)) | (with_reducible refine Bk.grown ?_ (by assumption) (by first | omega | (simp; done) | (simp; omega))) | (exact SetTo.mk (by with_reducible rfl)) | (exact SetTo.mk (by simp))))) hb6
  have d6 : Below w.heap.size w w6 := by (repeat (first | (with_reducible assumption) | (with_reducible exact Below.refl _ _) | (with_reducible refine below_alloc ?_ _) | (with_reducible refine below_setCell ?_ ?_ _; (simp <;> omega)) | (with_reducible refine below_drew ?_) | (with_reducible refine below_drewN ?_ _) | (with_reducible refine below_after ?_ (by assumption))))
  clear hb6 p0 p1 p2 p3 p4 p5 p6 p7 p8 p9 p10 pf P5 d5
  have e6 := own_none G6
  have e6' := own_none G6'
  have s6 := G6.sl encBx_len
  have s6' := G6'.sl encBx_len
  clear G6 G6'
  go_wp2_with fail
  refine (toInputS_any A2 ins.length c2 ins _ (hs.below (by (repeat (first | (with_reducible assumption) | (with_reducible exact Below.refl _ _) | (with_reducible refine below_alloc ?_ _) | (with_reducible refine below_setCell ?_ ?_ _; (simp <;> omega)) | (with_reducible refine below_drew ?_) | (with_reducible refine below_drewN ?_ _) | (with_reducible refine below_after ?_ (by assumption)))))) (by omega)).mono ?_
  rintro e w7 ⟨A7, c7, rfl, hc7, G7, hb7⟩
  have X7 : Bk w7 w6.heap.size 29 #[.int .i64 l.id, .int .i64 l.ticks, .int .i64 l.start.x, .int .i64 l.start.y, .slice A6 l.walls.length c6, .slice A6' l.gates.length c6', .int .i64 l.fin.lo.x, .int .i64 l.fin.lo.y, .int .i64 l.fin.hi.x, .int .i64 l.fin.hi.y, .int .i64 l.bans] := Bk.later (by (repeat (first | (with_reducible assumption) | (with_reducible exact Bk.new _ _ _ (by simp; done)) | (with_reducible refine Bk.alloc ?_ _) | (with_reducible refine Bk.drew ?_) | (with_reducible refine Bk.drewN ?_ _) | (with_reducible apply Bk.set') | (with_reducible refine Bk.far ?_ (by first | omega | (simp; done) | (simp; omega)) _) | (with_reducible refine Bk.later ?_ (by assumption)) | (with_reducible refine Bk.grown ?_ (by assumption) (by first | omega | (simp; done) | (simp; omega))) | (exact SetTo.mk (by with_reducible rfl)) | (exact SetTo.mk (by simp))))) hb7
  have S7 : Bk w7 w5.heap.size 31 #[.int .i64 sv.t, .int .i64 sv.p.x, .int .i64 sv.p.y, .int .i64 sv.f.x, .int .i64 sv.f.y, .int .i64 sv.d, .int .i64 sv.g, .bool sv.dn, .bool sv.ov] := Bk.later (by (repeat (first | (with_reducible assumption) | (with_reducible exact Bk.new _ _ _ (by simp; done)) | (with_reducible refine Bk.alloc ?_ _) | (with_reducible refine Bk.drew ?_) | (with_reducible refine Bk.drewN ?_ _) | (with_reducible apply Bk.set') | (with_reducible refine Bk.far ?_ (by first | omega | (simp; done) | (simp; omega)) _) | (with_reducible refine Bk.later ?_ (by assumption)) | (with_reducible refine Bk.grown ?_ (by assumption) (by first | omega | (simp; done) | (simp; omega))) | (exact SetTo.mk (by with_reducible rfl)) | (exact SetTo.mk (by simp))))) hb7
  have P7 : Bk w7 w.heap.size 48 #[.int .i64 l.id, .int .i64 l.ticks, .int .i64 l.start.x, .int .i64 l.start.y, .slice A l.walls.length c, .slice A' l.gates.length c', .int .i64 l.fin.lo.x, .int .i64 l.fin.lo.y, .int .i64 l.fin.hi.x, .int .i64 l.fin.hi.y, .int .i64 l.bans] := Bk.later (by (repeat (first | (with_reducible assumption) | (with_reducible exact Bk.new _ _ _ (by simp; done)) | (with_reducible refine Bk.alloc ?_ _) | (with_reducible refine Bk.drew ?_) | (with_reducible refine Bk.drewN ?_ _) | (with_reducible apply Bk.set') | (with_reducible refine Bk.far ?_ (by first | omega | (simp; done) | (simp; omega)) _) | (with_reducible refine Bk.later ?_ (by assumption)) | (with_reducible refine Bk.grown ?_ (by assumption) (by first | omega | (simp; done) | (simp; omega))) | (exact SetTo.mk (by with_reducible rfl)) | (exact SetTo.mk (by simp))))) hb7
  have d7 : Below w.heap.size w w7 := by (repeat (first | (with_reducible assumption) | (with_reducible exact Below.refl _ _) | (with_reducible refine below_alloc ?_ _) | (with_reducible refine below_setCell ?_ ?_ _; (simp <;> omega)) | (with_reducible refine below_drew ?_) | (with_reducible refine below_drewN ?_ _) | (with_reducible refine below_after ?_ (by assumption))))
  have s7 : Sl w7 4 encBx A6 l.walls.length l.walls := s6.below (below_after (below_alloc (Below.refl _ _) _) hb7)
  have s7' : Sl w7 4 encBx A6' l.gates.length l.gates := s6'.below (below_after (below_alloc (Below.refl _ _) _) hb7)
  have t7 := G7.sl encInp_len
  clear hb7 P6 d6 s6 s6' G7
  obtain ⟨⟨x0, x1, x2, x3, x4, x5, x6, x7, x8, x9, x10⟩, xf⟩ := X7.c11
  have y7 := X7.lt
  go_wp2_with fail
  refine (implRunTo_any l ins k A6 A6' A7 c6 c6' c7 _ s7 s7' e6 e6' hn1 hn2 t7 hn3).mono ?_
  rw [HSV.out, HBV.out]
  rintro e w8 ⟨rfl, hb8⟩
  have X8 := X7.later hb8
  have s8 := s7.below hb8
  have s8' := s7'.below hb8
  have t8 := t7.below hb8
  have S8 : Bk w8 w5.heap.size 31 #[.int .i64 sv.t, .int .i64 sv.p.x, .int .i64 sv.p.y, .int .i64 sv.f.x, .int .i64 sv.f.y, .int .i64 sv.d, .int .i64 sv.g, .bool sv.dn, .bool sv.ov] := Bk.later (by (repeat (first | (with_reducible assumption) | (with_reducible exact Bk.new _ _ _ (by simp; done)) | (with_reducible refine Bk.alloc ?_ _) | (with_reducible refine Bk.drew ?_) | (with_reducible refine Bk.drewN ?_ _) | (with_reducible apply Bk.set') | (with_reducible refine Bk.far ?_ (by first | omega | (simp; done) | (simp; omega)) _) | (with_reducible refine Bk.later ?_ (by assumption)) | (with_reducible refine Bk.grown ?_ (by assumption) (by first | omega | (simp; done) | (simp; omega))) | (exact SetTo.mk (by with_reducible rfl)) | (exact SetTo.mk (by simp))))) hb8
  have P8 : Bk w8 w.heap.size 48 #[.int .i64 l.id, .int .i64 l.ticks, .int .i64 l.start.x, .int .i64 l.start.y, .slice A l.walls.length c, .slice A' l.gates.length c', .int .i64 l.fin.lo.x, .int .i64 l.fin.lo.y, .int .i64 l.fin.hi.x, .int .i64 l.fin.hi.y, .int .i64 l.bans] := Bk.later (by (repeat (first | (with_reducible assumption) | (with_reducible exact Bk.new _ _ _ (by simp; done)) | (with_reducible refine Bk.alloc ?_ _) | (with_reducible refine Bk.drew ?_) | (with_reducible refine Bk.drewN ?_ _) | (with_reducible apply Bk.set') | (with_reducible refine Bk.far ?_ (by first | omega | (simp; done) | (simp; omega)) _) | (with_reducible refine Bk.later ?_ (by assumption)) | (with_reducible refine Bk.grown ?_ (by assumption) (by first | omega | (simp; done) | (simp; omega))) | (exact SetTo.mk (by with_reducible rfl)) | (exact SetTo.mk (by simp))))) hb8
  have d8 : Below w.heap.size w w8 := by (repeat (first | (with_reducible assumption) | (with_reducible exact Below.refl _ _) | (with_reducible refine below_alloc ?_ _) | (with_reducible refine below_setCell ?_ ?_ _; (simp <;> omega)) | (with_reducible refine below_drew ?_) | (with_reducible refine below_drewN ?_ _) | (with_reducible refine below_after ?_ (by assumption))))
  clear hb8 x0 x1 x2 x3 x4 x5 x6 x7 x8 x9 x10 xf X7 P7 d7 s7 s7' t7
  obtain ⟨⟨q0, q1, q2, q3, q4, q5, q6, q7, q8⟩, qf⟩ := S8.c9
  have yS := S8.lt
  go_wp2_with fail
  refine (eqState_any sv sv _ rfl).mono ?_
  rintro e w85 ⟨rfl, hb85⟩
  have P85 := Bk.later (show Bk (w8.alloc _) w.heap.size _ _ from P8.alloc _) hb85
  have X85 := Bk.later (show Bk (w8.alloc _) w6.heap.size _ _ from X8.alloc _) hb85
  have s85 := (s8.below (below_alloc (Below.refl _ _) _)).below hb85
  have s85' := (s8'.below (below_alloc (Below.refl _ _) _)).below hb85
  have t85 := (t8.below (below_alloc (Below.refl _ _) _)).below hb85
  have d85 : Below w.heap.size w w85 := below_after (below_alloc d8 _) hb85
  clear hb85 q0 q1 q2 q3 q4 q5 q6 q7 q8 qf
  go_wp2
  refine wp_world (fun W => Bk W w.heap.size 48 #[.int .i64 l.id, .int .i64 l.ticks, .int .i64 l.start.x, .int .i64 l.start.y, .slice A l.walls.length c, .slice A' l.gates.length c', .int .i64 l.fin.lo.x, .int .i64 l.fin.lo.y, .int .i64 l.fin.hi.x, .int .i64 l.fin.hi.y, .int .i64 l.bans] ∧ Bk W w6.heap.size 29 #[.int .i64 l.id, .int .i64 l.ticks, .int .i64 l.start.x, .int .i64 l.start.y, .slice A6 l.walls.length c6, .slice A6' l.gates.length c6', .int .i64 l.fin.lo.x, .int .i64 l.fin.lo.y, .int .i64 l.fin.hi.x, .int .i64 l.fin.hi.y, .int .i64 l.bans] ∧ (Sl W 4 encBx A6 l.walls.length l.walls ∧ Sl W 4 encBx A6' l.gates.length l.gates ∧ Sl W 3 encInp A7 ins.length ins) ∧ Below w.heap.size w W) ⟨P85, X85, ⟨s85, s85', t85⟩, d85⟩ ?_
  clear P85 X85 s85 s85' t85 d85 P8 X8 s8 s8' t8 d8
  rintro W ⟨PW, XW, ⟨sW, sW', tW⟩, dW⟩
  go_region_held3 (fun w' => (w'.cell? ⟨w.heap.size, 0, none⟩ = some (.int .i64 l.id) ∧ w'.cell? ⟨w.heap.size, 1, none⟩ = some (.int .i64 l.ticks) ∧ w'.cell? ⟨w.heap.size, 2, none⟩ = some (.int .i64 l.start.x) ∧ w'.cell? ⟨w.heap.size, 3, none⟩ = some (.int .i64 l.start.y) ∧ w'.cell? ⟨w.heap.size, 4, none⟩ = some (.slice A l.walls.length c) ∧ w'.cell? ⟨w.heap.size, 5, none⟩ = some (.slice A' l.gates.length c') ∧ w'.cell? ⟨w.heap.size, 6, none⟩ = some (.int .i64 l.fin.lo.x) ∧ w'.cell? ⟨w.heap.size, 7, none⟩ = some (.int .i64 l.fin.lo.y) ∧ w'.cell? ⟨w.heap.size, 8, none⟩ = some (.int .i64 l.fin.hi.x) ∧ w'.cell? ⟨w.heap.size, 9, none⟩ = some (.int .i64 l.fin.hi.y) ∧ w'.cell? ⟨w.heap.size, 10, none⟩ = some (.int .i64 l.bans)) ∧ (w'.cell? ⟨w6.heap.size, 0, none⟩ = some (.int .i64 l.id) ∧ w'.cell? ⟨w6.heap.size, 1, none⟩ = some (.int .i64 l.ticks) ∧ w'.cell? ⟨w6.heap.size, 2, none⟩ = some (.int .i64 l.start.x) ∧ w'.cell? ⟨w6.heap.size, 3, none⟩ = some (.int .i64 l.start.y) ∧ w'.cell? ⟨w6.heap.size, 4, none⟩ = some (.slice A6 l.walls.length c6) ∧ w'.cell? ⟨w6.heap.size, 5, none⟩ = some (.slice A6' l.gates.length c6') ∧ w'.cell? ⟨w6.heap.size, 6, none⟩ = some (.int .i64 l.fin.lo.x) ∧ w'.cell? ⟨w6.heap.size, 7, none⟩ = some (.int .i64 l.fin.lo.y) ∧ w'.cell? ⟨w6.heap.size, 8, none⟩ = some (.int .i64 l.fin.hi.x) ∧ w'.cell? ⟨w6.heap.size, 9, none⟩ = some (.int .i64 l.fin.hi.y) ∧ w'.cell? ⟨w6.heap.size, 10, none⟩ = some (.int .i64 l.bans)))
    (first | (with_reducible exact keepLL PW XW (below_drew (Below.refl _ _))) | (with_reducible exact keepLL PW XW (below_after (below_drew (Below.refl _ _)) hb9)) | (with_reducible exact keepLL PW XW (below_after (below_after (below_drew (Below.refl _ _)) hb9) hb10)))
    (first
    | (go_at_call 34; refine (toLevel_any l A A' c c' _ (h.below (below_drew dW)) (hg.below (below_drew dW)) (by omega) (by omega)).mono ?_; rintro e w9 ⟨A9, c9, A9', c9', rfl, G9, G9', hb9⟩)
    | (go_at_call 37; refine (eqLevel_same l A6 A6' A9 A9' c6 c6' c9 c9' _ (sW.below (below_after (below_drew (Below.refl _ _)) hb9)) (sW'.below (below_after (below_drew (Below.refl _ _)) hb9)) (G9.sl encBx_len) (G9'.sl encBx_len) (by omega) (by omega)).mono ?_; rintro e w10 ⟨rfl, hb10⟩))
  have d10 : Below w.heap.size w w10 := below_after (below_after (below_drew dW) hb9) hb10
  have t10 := (tW.below (below_after (below_drew (Below.refl _ _)) hb9)).below hb10
  clear hb9 hb10 G9 G9' sW sW' tW PW XW
  go_wp2_with fail
  refine (toInputS_any A2 ins.length c2 ins _ (hs.below d10) (by omega)).mono ?_
  rintro e w11 ⟨A11, c11, rfl, hc11, G11, hb11⟩
  have d11 := below_after d10 hb11
  have t11 := t10.below hb11
  go_wp2_with fail
  refine (eqInputS_any A7 A11 ins.length ins.length c7 c11 ins ins _ t11 (G11.sl encInp_len) (by omega) (by omega)).mono ?_
  rw [eqL_self eqInp_iff]
  rintro e w12 ⟨rfl, hb12⟩
  go_wp2
  go_ret
  exact ⟨rfl, below_after d11 hb12⟩
end Go.Proofs.Ytmfhfebakdkkdaa
