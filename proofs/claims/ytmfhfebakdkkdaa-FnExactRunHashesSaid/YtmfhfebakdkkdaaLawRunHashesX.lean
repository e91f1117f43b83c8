/- The law FnExactRunHashes: its walk. Printed by gen/lawrunx.py. (Round B) -/
import Derived.Test.YtmfhfebakdkkdaaConvV
import Derived.Test.YtmfhfebakdkkdaaSpecN
import Derived.Deep.RegionHeld3
import Derived.Deep.DeepMust
namespace Go.Proofs.Ytmfhfebakdkkdaa
open Go.ChangeShapes Go.WideShapes Go.ChangeAt Go.RowKit
set_option maxRecDepth 100000 in
set_option maxHeartbeats 4000000 in
theorem lawRunHashesX (l : Lev) (ins : List Inp) (A A' A2 : Option Addr) (c c' c2 : Nat) (w : World) (h : Sl w 4 encBx A l.walls.length l.walls) (hg : Sl w 4 encBx A' l.gates.length l.gates) (hs : Sl w 3 encInp A2 ins.length ins) (hn1 : (l.walls.length : Nat) ≤ 9223372036854775807) (hn2 : (l.gates.length : Nat) ≤ 9223372036854775807) (hn3 : (ins.length : Nat) ≤ 9223372036854775807) :
    Calls Try.prog 24 #[.agg #[.int .i64 l.id, .int .i64 l.ticks, .int .i64 l.start.x, .int .i64 l.start.y, .slice A l.walls.length c, .slice A' l.gates.length c', .int .i64 l.fin.lo.x, .int .i64 l.fin.lo.y, .int .i64 l.fin.hi.x, .int .i64 l.fin.hi.y, .int .i64 l.bans], .slice A2 ins.length c2] w fun e w' => e = .returned (.bool (true)) ∧ Below w.heap.size w w' := by
  obtain ⟨z0, z1⟩ := szLev_bd (n := l.walls.length) (n' := l.gates.length)
  obtain ⟨kz, hkz⟩ : ∃ kz, szLev l.walls.length l.gates.length 1048576 = kz := ⟨_, rfl⟩
  have HKZ := Lib.hid hkz
  have hm : ¬ kz < 0 → l.walls.length ≤ 1048576 ∧ l.gates.length ≤ 1048576 := fun h => szLev_ok (by rw [hkz]; exact h)
  rw [hkz] at z0 z1
  clear hkz
  by_cases hz : kz < 0
  · go_enter Try.func24, Try.ntmps24
    go_wp2_with (go_at_call 31; refine (szLevel_any _ _ _ _ _ _ _ _ _ _ _ _ _ _ _ _ _ (by omega) (by omega) hn1 hn2).mono ?_; rw [HKZ.out]; rintro e w1 ⟨rfl, hb1⟩)
    go_ret
    exact ⟨rfl, by (repeat (first | (with_reducible assumption) | (with_reducible exact Below.refl _ _) | (with_reducible refine below_alloc ?_ _) | (with_reducible refine below_setCell ?_ ?_ _; (simp <;> omega)) | (with_reducible refine below_drew ?_) | (with_reducible refine below_drewN ?_ _) | (with_reducible refine below_after ?_ (by assumption))))⟩
  obtain ⟨m1, m2⟩ := hm hz
  obtain ⟨kq, hkq⟩ : ∃ kq, szL ins.length kz = kq := ⟨_, rfl⟩
  have HKQ := Lib.hid hkq
  have hm3 : ¬ kq < 0 → ins.length ≤ 1048576 := fun h => szL_le z1 (by rw [hkq]; exact h)
  clear hkq hm
  by_cases hz2 : kq < 0
  · go_enter Try.func24, Try.ntmps24
    go_wp2_with fail
    refine (szLevel_any _ _ _ _ _ _ _ _ _ _ _ _ _ _ _ _ _ (by omega) (by omega) hn1 hn2).mono ?_
    rw [HKZ.out]
    rintro e w1 ⟨rfl, hb1⟩
    go_wp2_with fail
    refine (szInputS_any _ _ _ _ _ (by omega) (by omega) hn3).mono ?_
    rw [HKQ.out]
    rintro e w2 ⟨rfl, rfl⟩
    go_wp2
    go_ret
    exact ⟨rfl, by (repeat (first | (with_reducible assumption) | (with_reducible exact Below.refl _ _) | (with_reducible refine below_alloc ?_ _) | (with_reducible refine below_setCell ?_ ?_ _; (simp <;> omega)) | (with_reducible refine below_drew ?_) | (with_reducible refine below_drewN ?_ _) | (with_reducible refine below_after ?_ (by assumption))))⟩
  have m3 := hm3 hz2
  clear hm3
  go_enter Try.func24, Try.ntmps24
  go_wp2_with fail
  refine (szLevel_any _ _ _ _ _ _ _ _ _ _ _ _ _ _ _ _ _ (by omega) (by omega) hn1 hn2).mono ?_
  rw [HKZ.out]
  rintro e w1 ⟨rfl, hb1⟩
  have P1 : Bk w1 w.heap.size 48 #[.int .i64 l.id, .int .i64 l.ticks, .int .i64 l.start.x, .int .i64 l.start.y, .slice A l.walls.length c, .slice A' l.gates.length c', .int .i64 l.fin.lo.x, .int .i64 l.fin.lo.y, .int .i64 l.fin.hi.x, .int .i64 l.fin.hi.y, .int .i64 l.bans] := Bk.later (by (repeat (first | (with_reducible assumption) | (with_reducible exact Bk.new _ _ _ (by simp; done)) | (with_reducible refine Bk.alloc ?_ _) | (with_reducible refine Bk.drew ?_) | (with_reducible refine Bk.drewN ?_ _) | (with_reducible apply Bk.set') | (with_reducible refine Bk.far ?_ (by first | omega | (simp; done) | (simp; omega)) _) | (with_reducible refine Bk.later ?_ (by assumption)) | (with_reducible refine Bk.grown ?_ (by assumption) (by first | omega | (simp; done) | (simp; omega))) | (exact SetTo.mk (by with_reducible rfl)) | (exact SetTo.mk (by simp))))) hb1
  have d1 : Below w.heap.size w w1 := by (repeat (first | (with_reducible assumption) | (with_reducible exact Below.refl _ _) | (with_reducible refine below_alloc ?_ _) | (with_reducible refine below_setCell ?_ ?_ _; (simp <;> omega)) | (with_reducible refine below_drew ?_) | (with_reducible refine below_drewN ?_ _) | (with_reducible refine below_after ?_ (by assumption))))
  clear hb1
  obtain ⟨⟨p0, p1, p2, p3, p4, p5, p6, p7, p8, p9, p10⟩, pf⟩ := P1.c11
  go_wp2_with fail
  refine (szInputS_any _ _ _ _ _ (by omega) (by omega) hn3).mono ?_
  rw [HKQ.out]
  rintro e w2 ⟨rfl, rfl⟩
  go_wp2_with fail
  refine (toLevel_any l A A' c c' _ (h.below (by (repeat (first | (with_reducible assumption) | (with_reducible exact Below.refl _ _) | (with_reducible refine below_alloc ?_ _) | (with_reducible refine below_setCell ?_ ?_ _; (simp <;> omega)) | (with_reducible refine below_drew ?_) | (with_reducible refine below_drewN ?_ _) | (with_reducible refine below_after ?_ (by assumption)))))) (hg.below (by (repeat (first | (with_reducible assumption) | (with_reducible exact Below.refl _ _) | (with_reducible refine below_alloc ?_ _) | (with_reducible refine below_setCell ?_ ?_ _; (simp <;> omega)) | (with_reducible refine below_drew ?_) | (with_reducible refine below_drewN ?_ _) | (with_reducible refine below_after ?_ (by assumption)))))) (by omega) (by omega)).mono ?_
  rintro e w3 ⟨A3, c3, A3', c3', rfl, G3, G3', hb3⟩
  have P3 : Bk w3 w.heap.size 48 #[.int .i64 l.id, .int .i64 l.ticks, .int .i64 l.start.x, .int .i64 l.start.y, .slice A l.walls.length c, .slice A' l.gates.length c', .int .i64 l.fin.lo.x, .int .i64 l.fin.lo.y, .int .i64 l.fin.hi.x, .int .i64 l.fin.hi.y, .int .i64 l.bans] := Bk.later (by (repeat (first | (with_reducible assumption) | (with_reducible exact Bk.new _ _ _ (by simp; done)) | (with_reducible refine Bk.alloc ?_ _) | (with_reducible refine Bk.drew ?_) | (with_reducible refine Bk.drewN ?_ _) | (with_reducible apply Bk.set') | (with_reducible refine Bk.far ?_ (by first | omega | (simp; done) | (simp; omega)) _) | (with_reducible refine Bk.later ?_ (by assumption)) | (with_reducible refine Bk.grown ?_ (by assumption) (by first | omega | (simp; done) | (simp; omega))) | (exact SetTo.mk (by with_reducible rfl)) | (exact SetTo.mk (by simp))))) hb3
  have d3 : Below w.heap.size w w3 := by (repeat (first | (with_reducible assumption) | (with_reducible exact Below.refl _ _) | (with_reducible refine below_alloc ?_ _) | (with_reducible refine below_setCell ?_ ?_ _; (simp <;> omega)) | (with_reducible refine below_drew ?_) | (with_reducible refine below_drewN ?_ _) | (with_reducible refine below_after ?_ (by assumption))))
  clear hb3 p0 p1 p2 p3 p4 p5 p6 p7 p8 p9 p10 pf
  go_wp2_with fail
  refine (toInputS_any A2 ins.length c2 ins _ (hs.below (by (repeat (first | (with_reducible assumption) | (with_reducible exact Below.refl _ _) | (with_reducible refine below_alloc ?_ _) | (with_reducible refine below_setCell ?_ ?_ _; (simp <;> omega)) | (with_reducible refine below_drew ?_) | (with_reducible refine below_drewN ?_ _) | (with_reducible refine below_after ?_ (by assumption)))))) (by omega)).mono ?_
  rintro e w4 ⟨A4, c4, rfl, hc4, G4, hb4⟩
  have s4 : Sl w4 4 encBx A3 l.walls.length l.walls := (G3.sl encBx_len).below hb4
  have s4' : Sl w4 4 encBx A3' l.gates.length l.gates := (G3'.sl encBx_len).below hb4
  have t4 := G4.sl encInp_len
  have P4 : Bk w4 w.heap.size 48 #[.int .i64 l.id, .int .i64 l.ticks, .int .i64 l.start.x, .int .i64 l.start.y, .slice A l.walls.length c, .slice A' l.gates.length c', .int .i64 l.fin.lo.x, .int .i64 l.fin.lo.y, .int .i64 l.fin.hi.x, .int .i64 l.fin.hi.y, .int .i64 l.bans] := Bk.later (by (repeat (first | (with_reducible assumption) | (with_reducible exact Bk.new _ _ _ (by simp; done)) | (with_reducible refine Bk.alloc ?_ _) | (with_reducible refine Bk.drew ?_) | (with_reducible refine Bk.drewN ?_ _) | (with_reducible apply Bk.set') | (with_reducible refine Bk.far ?_ (by first | omega | (simp; done) | (simp; omega)) _) | (with_reducible refine Bk.later ?_ (by assumption)) | (with_reducible refine Bk.grown ?_ (by assumption) (by first | omega | (simp; done) | (simp; omega))) | (exact SetTo.mk (by with_reducible rfl)) | (exact SetTo.mk (by simp))))) hb4
  have d4 : Below w.heap.size w w4 := by (repeat (first | (with_reducible assumption) | (with_reducible exact Below.refl _ _) | (with_reducible refine below_alloc ?_ _) | (with_reducible refine below_setCell ?_ ?_ _; (simp <;> omega)) | (with_reducible refine below_drew ?_) | (with_reducible refine below_drewN ?_ _) | (with_reducible refine below_after ?_ (by assumption))))
  clear hb4 P1 P3 d1 d3 G3 G3' G4
  have hle := hashesR_le l ins
  generalize hRV : hashesR l ins = RV at hle
  have HRV := Lib.hid hRV
  clear hRV
  go_wp2_with fail
  refine (specRunHashes_any l ins A3 A3' A4 c3 c3' c4 _ s4 s4' t4 hn1 hn2 (by omega)).mono ?_
  rw [HRV.out]
  rintro e w5 ⟨AS, cS, rfl, hcS, S5, hb5⟩
  have P5 : Bk w5 w.heap.size 48 #[.int .i64 l.id, .int .i64 l.ticks, .int .i64 l.start.x, .int .i64 l.start.y, .slice A l.walls.length c, .slice A' l.gates.length c', .int .i64 l.fin.lo.x, .int .i64 l.fin.lo.y, .int .i64 l.fin.hi.x, .int .i64 l.fin.hi.y, .int .i64 l.bans] := Bk.later (by (repeat (first | (with_reducible assumption) | (with_reducible exact Bk.new _ _ _ (by simp; done)) | (with_reducible refine Bk.alloc ?_ _) | (with_reducible refine Bk.drew ?_) | (with_reducible refine Bk.drewN ?_ _) | (with_reducible apply Bk.set') | (with_reducible refine Bk.far ?_ (by first | omega | (simp; done) | (simp; omega)) _) | (with_reducible refine Bk.later ?_ (by assumption)) | (with_reducible refine Bk.grown ?_ (by assumption) (by first | omega | (simp; done) | (simp; omega))) | (exact SetTo.mk (by with_reducible rfl)) | (exact SetTo.mk (by simp))))) hb5
  have d5 : Below w.heap.size w w5 := by (repeat (first | (with_reducible assumption) | (with_reducible exact Below.refl _ _) | (with_reducible refine below_alloc ?_ _) | (with_reducible refine below_setCell ?_ ?_ _; (simp <;> omega)) | (with_reducible refine below_drew ?_) | (with_reducible refine below_drewN ?_ _) | (with_reducible refine below_after ?_ (by assumption))))
  have hSr := Lib.hid (fun g e => (S5.lt g e).2)
  have S5 := S5.mono (B' := 0) (Nat.zero_le _)
  clear hb5 P4 d4 s4 s4' t4
  obtain ⟨⟨p0, p1, p2, p3, p4, p5, p6, p7, p8, p9, p10⟩, pf⟩ := P5.c11
  have y5 := P5.lt
  go_wp2_with fail
  refine (toLevel_sep l A A' c c' _ (h.below (by (repeat (first | (with_reducible assumption) | (with_reducible exact Below.refl _ _) | (with_reducible refine below_alloc ?_ _) | (with_reducible refine below_setCell ?_ ?_ _; (simp <;> omega)) | (with_reducible refine below_drew ?_) | (with_reducible refine below_drewN ?_ _) | (with_reducible refine below_after ?_ (by assumption)))))) (hg.below (by (repeat (first | (with_reducible assumption) | (with_reducible exact Below.refl _ _) | (with_reducible refine below_alloc ?_ _) | (with_reducible refine below_setCell ?_ ?_ _; (simp <;> omega)) | (with_reducible refine below_drew ?_) | (with_reducible refine below_drewN ?_ _) | (with_reducible refine below_after ?_ (by assumption)))))) (by omega) (by omega)).mono ?_
  rintro e w6 ⟨A6, c6, A6', c6', rfl, G6, G6', hb6, hsep⟩
  have HSEP := Lib.hid hsep
  have S6 := S5.later hb6
  have P6 : Bk w6 w.heap.size 48 #[.int .i64 l.id, .int .i64 l.ticks, .int .i64 l.start.x, .int .i64 l.start.y, .slice A l.walls.length c, .slice A' l.gates.length c', .int .i64 l.fin.lo.x, .int .i64 l.fin.lo.y, .int .i64 l.fin.hi.x, .int .i64 l.fin.hi.y, .int .i64 l.bans] := Bk.later (by (repeat (first | (with_reducible assumption) | (with_reducible exact Bk.new _ _ _ (by simp; done)) | (with_reducible refine Bk.alloc ?_ _) | (with_reducible refine Bk.drew ?_) | (with_reducible refine Bk.drewN ?_ _) | (with_reducible apply Bk.set') | (with_reducible refine Bk.far ?_ (by first | omega | (simp; done) | (simp; omega)) _) | (with_reducible refine Bk.later ?_ (by assumption)) | (with_reducible refine Bk.grown ?_ (by assumption) (by first | omega | (simp; done) | (simp; omega))) | (exact SetTo.mk (by with_reducible rfl)) | (exact SetTo.mk (by simp))))) hb6
  have d6 : Below w.heap.size w w6 := by (repeat (first | (with_reducible assumption) | (with_reducible exact Below.refl _ _) | (with_reducible refine below_alloc ?_ _) | (with_reducible refine below_setCell ?_ ?_ _; (simp <;> omega)) | (with_reducible refine below_drew ?_) | (with_reducible refine below_drewN ?_ _) | (with_reducible refine below_after ?_ (by assumption))))
  have hr6 := Lib.hid G6.lt
  have hr6' := Lib.hid G6'.lt
  have q6 := hb6.size
  clear hb6 hsep p0 p1 p2 p3 p4 p5 p6 p7 p8 p9 p10 pf P5 d5 S5
  have e6 := own_none G6
  have e6' := own_none G6'
  go_wp2_with fail
  refine (toInputS_any A2 ins.length c2 ins _ (hs.below (by (repeat (first | (with_reducible assumption) | (with_reducible exact Below.refl _ _) | (with_reducible refine below_alloc ?_ _) | (with_reducible refine below_setCell ?_ ?_ _; (simp <;> omega)) | (with_reducible refine below_drew ?_) | (with_reducible refine below_drewN ?_ _) | (with_reducible refine below_after ?_ (by assumption)))))) (by omega)).mono ?_
  rintro e w7 ⟨A7, c7, rfl, hc7, T7, hb7⟩
  have X7 : Bk w7 w6.heap.size 29 #[.int .i64 l.id, .int .i64 l.ticks, .int .i64 l.start.x, .int .i64 l.start.y, .slice A6 l.walls.length c6, .slice A6' l.gates.length c6', .int .i64 l.fin.lo.x, .int .i64 l.fin.lo.y, .int .i64 l.fin.hi.x, .int .i64 l.fin.hi.y, .int .i64 l.bans] := Bk.later (by (repeat (first | (with_reducible assumption) | (with_reducible exact Bk.new _ _ _ (by simp; done)) | (with_reducible refine Bk.alloc ?_ _) | (with_reducible refine Bk.drew ?_) | (with_reducible refine Bk.drewN ?_ _) | (with_reducible apply Bk.set') | (with_reducible refine Bk.far ?_ (by first | omega | (simp; done) | (simp; omega)) _) | (with_reducible refine Bk.later ?_ (by assumption)) | (with_reducible refine Bk.grown ?_ (by assumption) (by first | omega | (simp; done) | (simp; omega))) | (exact SetTo.mk (by with_reducible rfl)) | (exact SetTo.mk (by simp))))) hb7
  have S7 := (S6.alloc _).later hb7
  have P7 : Bk w7 w.heap.size 48 #[.int .i64 l.id, .int .i64 l.ticks, .int .i64 l.start.x, .int .i64 l.start.y, .slice A l.walls.length c, .slice A' l.gates.length c', .int .i64 l.fin.lo.x, .int .i64 l.fin.lo.y, .int .i64 l.fin.hi.x, .int .i64 l.fin.hi.y, .int .i64 l.bans] := Bk.later (by (repeat (first | (with_reducible assumption) | (with_reducible exact Bk.new _ _ _ (by simp; done)) | (with_reducible refine Bk.alloc ?_ _) | (with_reducible refine Bk.drew ?_) | (with_reducible refine Bk.drewN ?_ _) | (with_reducible apply Bk.set') | (with_reducible refine Bk.far ?_ (by first | omega | (simp; done) | (simp; omega)) _) | (with_reducible refine Bk.later ?_ (by assumption)) | (with_reducible refine Bk.grown ?_ (by assumption) (by first | omega | (simp; done) | (simp; omega))) | (exact SetTo.mk (by with_reducible rfl)) | (exact SetTo.mk (by simp))))) hb7
  have d7 : Below w.heap.size w w7 := by (repeat (first | (with_reducible assumption) | (with_reducible exact Below.refl _ _) | (with_reducible refine below_alloc ?_ _) | (with_reducible refine below_setCell ?_ ?_ _; (simp <;> omega)) | (with_reducible refine below_drew ?_) | (with_reducible refine below_drewN ?_ _) | (with_reducible refine below_after ?_ (by assumption))))
  have G7 := (G6.alloc (.cells #[.int .i64 l.id, .int .i64 l.ticks, .int .i64 l.start.x, .int .i64 l.start.y, .slice A6 l.walls.length c6, .slice A6' l.gates.length c6', .int .i64 l.fin.lo.x, .int .i64 l.fin.lo.y, .int .i64 l.fin.hi.x, .int .i64 l.fin.hi.y, .int .i64 l.bans] 29)).later hb7
  have G7' := (G6'.alloc (.cells #[.int .i64 l.id, .int .i64 l.ticks, .int .i64 l.start.x, .int .i64 l.start.y, .slice A6 l.walls.length c6, .slice A6' l.gates.length c6', .int .i64 l.fin.lo.x, .int .i64 l.fin.lo.y, .int .i64 l.fin.hi.x, .int .i64 l.fin.hi.y, .int .i64 l.bans] 29)).later hb7
  have hr7 := Lib.hid T7.lt
  have q7 := hb7.size
  simp only [World.size_alloc] at q7
  clear hb7 P6 d6 S6 G6 G6'
  obtain ⟨⟨x0, x1, x2, x3, x4, x5, x6, x7, x8, x9, x10⟩, xf⟩ := X7.c11
  have y7 := X7.lt
  go_wp2_with fail
  refine (implRunHashes_any l ins A6 A6' A7 c6 c6' c7 _ (G7.sl encBx_len) (G7'.sl encBx_len) e6 e6' hn1 hn2 (T7.sl encInp_len) hn3).mono ?_
  rw [HRV.out]
  rintro e w8 ⟨AG, cG, rfl, hcG, V8, hb8⟩
  have X8 := X7.later hb8
  have G8 := G7.later hb8
  have G8' := G7'.later hb8
  have T8 := T7.later hb8
  have S8 := S7.later hb8
  have P8 : Bk w8 w.heap.size 48 #[.int .i64 l.id, .int .i64 l.ticks, .int .i64 l.start.x, .int .i64 l.start.y, .slice A l.walls.length c, .slice A' l.gates.length c', .int .i64 l.fin.lo.x, .int .i64 l.fin.lo.y, .int .i64 l.fin.hi.x, .int .i64 l.fin.hi.y, .int .i64 l.bans] := Bk.later (by (repeat (first | (with_reducible assumption) | (with_reducible exact Bk.new _ _ _ (by simp; done)) | (with_reducible refine Bk.alloc ?_ _) | (with_reducible refine Bk.drew ?_) | (with_reducible refine Bk.drewN ?_ _) | (with_reducible apply Bk.set') | (with_reducible refine Bk.far ?_ (by first | omega | (simp; done) | (simp; omega)) _) | (with_reducible refine Bk.later ?_ (by assumption)) | (with_reducible refine Bk.grown ?_ (by assumption) (by first | omega | (simp; done) | (simp; omega))) | (exact SetTo.mk (by with_reducible rfl)) | (exact SetTo.mk (by simp))))) hb8
  have d8 : Below w.heap.size w w8 := by (repeat (first | (with_reducible assumption) | (with_reducible exact Below.refl _ _) | (with_reducible refine below_alloc ?_ _) | (with_reducible refine below_setCell ?_ ?_ _; (simp <;> omega)) | (with_reducible refine below_drew ?_) | (with_reducible refine below_drewN ?_ _) | (with_reducible refine below_after ?_ (by assumption))))
  have hr8 := Lib.hid V8.lt
  have V8 := V8.mono (B' := 0) (Nat.zero_le _)
  have q8 := hb8.size
  clear hb8 x0 x1 x2 x3 x4 x5 x6 x7 x8 x9 x10 xf X7 P7 d7 G7 G7' T7 S7
  go_wp2_with fail
  refine (eqIntS_same _ _ _ _ _ _ _ _ (V8.sl' encInt_len) (S8.sl' encInt_len) (by omega) (by omega)).mono ?_
  rintro e w85 ⟨rfl, hb85⟩
  have P85 := P8.later hb85
  have X85 := X8.later hb85
  have G85 := G8.later hb85
  have G85' := G8'.later hb85
  have T85 := T8.later hb85
  have S85 := S8.later hb85
  have V85 := V8.later hb85
  have d85 : Below w.heap.size w w85 := below_after d8 hb85
  have q85 := hb85.size
  clear hb85 P8 X8 G8 G8' T8 S8 V8 d8
  go_wp2
  obtain ⟨W, hW⟩ : ∃ W, w85 = W := ⟨_, rfl⟩
  subst hW
  refine wp_world (fun W => Bk W w.heap.size 48 #[.int .i64 l.id, .int .i64 l.ticks, .int .i64 l.start.x, .int .i64 l.start.y, .slice A l.walls.length c, .slice A' l.gates.length c', .int .i64 l.fin.lo.x, .int .i64 l.fin.lo.y, .int .i64 l.fin.hi.x, .int .i64 l.fin.hi.y, .int .i64 l.bans] ∧ Bk W w6.heap.size 29 #[.int .i64 l.id, .int .i64 l.ticks, .int .i64 l.start.x, .int .i64 l.start.y, .slice A6 l.walls.length c6, .slice A6' l.gates.length c6', .int .i64 l.fin.lo.x, .int .i64 l.fin.lo.y, .int .i64 l.fin.hi.x, .int .i64 l.fin.hi.y, .int .i64 l.bans] ∧ (Own W w5.heap.size 27 4 encBx (.slice A6 l.walls.length c6) l.walls ∧ Own W w5.heap.size 27 4 encBx (.slice A6' l.gates.length c6') l.gates ∧ Own W (w6.heap.size + 1) 33 3 encInp (.slice A7 ins.length c7) ins) ∧ (Own W 0 3 1 encInt (.slice AS RV.length cS) RV ∧ Own W 0 3 1 encInt (.slice AG RV.length cG) RV) ∧ Below w.heap.size w W) ⟨P85, X85, ⟨G85, G85', by simpa only [World.size_alloc] using T85⟩, ⟨S85, V85⟩, d85⟩ ?_
  clear P85 X85 G85 G85' T85 S85 V85 d85
  rintro W ⟨PW, XW, ⟨GW, GW', TW⟩, ⟨SW, VW⟩, dW⟩
  go_region_held3 (fun w' => (w'.cell? ⟨w.heap.size, 0, none⟩ = some (.int .i64 l.id) ∧ w'.cell? ⟨w.heap.size, 1, none⟩ = some (.int .i64 l.ticks) ∧ w'.cell? ⟨w.heap.size, 2, none⟩ = some (.int .i64 l.start.x) ∧ w'.cell? ⟨w.heap.size, 3, none⟩ = some (.int .i64 l.start.y) ∧ w'.cell? ⟨w.heap.size, 4, none⟩ = some (.slice A l.walls.length c) ∧ w'.cell? ⟨w.heap.size, 5, none⟩ = some (.slice A' l.gates.length c') ∧ w'.cell? ⟨w.heap.size, 6, none⟩ = some (.int .i64 l.fin.lo.x) ∧ w'.cell? ⟨w.heap.size, 7, none⟩ = some (.int .i64 l.fin.lo.y) ∧ w'.cell? ⟨w.heap.size, 8, none⟩ = some (.int .i64 l.fin.hi.x) ∧ w'.cell? ⟨w.heap.size, 9, none⟩ = some (.int .i64 l.fin.hi.y) ∧ w'.cell? ⟨w.heap.size, 10, none⟩ = some (.int .i64 l.bans)) ∧ (w'.cell? ⟨w6.heap.size, 0, none⟩ = some (.int .i64 l.id) ∧ w'.cell? ⟨w6.heap.size, 1, none⟩ = some (.int .i64 l.ticks) ∧ w'.cell? ⟨w6.heap.size, 2, none⟩ = some (.int .i64 l.start.x) ∧ w'.cell? ⟨w6.heap.size, 3, none⟩ = some (.int .i64 l.start.y) ∧ w'.cell? ⟨w6.heap.size, 4, none⟩ = some (.slice A6 l.walls.length c6) ∧ w'.cell? ⟨w6.heap.size, 5, none⟩ = some (.slice A6' l.gates.length c6') ∧ w'.cell? ⟨w6.heap.size, 6, none⟩ = some (.int .i64 l.fin.lo.x) ∧ w'.cell? ⟨w6.heap.size, 7, none⟩ = some (.int .i64 l.fin.lo.y) ∧ w'.cell? ⟨w6.heap.size, 8, none⟩ = some (.int .i64 l.fin.hi.x) ∧ w'.cell? ⟨w6.heap.size, 9, none⟩ = some (.int .i64 l.fin.hi.y) ∧ w'.cell? ⟨w6.heap.size, 10, none⟩ = some (.int .i64 l.bans)))
    (first | (with_reducible exact keepLL PW XW (below_drew (Below.refl _ _))) | (with_reducible exact keepLL PW XW (below_after (below_drew (Below.refl _ _)) hb9)) | (with_reducible exact keepLL PW XW (below_after (below_after (below_drew (Below.refl _ _)) hb9) hb10)))
    (first
    | (go_at_call 34; refine (toLevel_any l A A' c c' _ (h.below (below_drew dW)) (hg.below (below_drew dW)) (by omega) (by omega)).mono ?_; rintro e w9 ⟨A9, c9, A9', c9', rfl, G9, G9', hb9⟩)
    | (go_at_call 37; refine (eqLevel_same l A6 A6' A9 A9' c6 c6' c9 c9' _ ((GW.sl encBx_len).below (below_after (below_drew (Below.refl _ _)) hb9)) ((GW'.sl encBx_len).below (below_after (below_drew (Below.refl _ _)) hb9)) (G9.sl encBx_len) (G9'.sl encBx_len) (by omega) (by omega)).mono ?_; rintro e w10 ⟨rfl, hb10⟩))
  have hb10 := below_after (below_after (below_drew (Below.refl W.heap.size W)) hb9) hb10
  have P10 := PW.later hb10
  have X10 := XW.later hb10
  have T10 := TW.later hb10
  have G10 := GW.later hb10
  have G10' := GW'.later hb10
  have S10 := SW.later hb10
  have V10 := VW.later hb10
  have d10 : Below w.heap.size w w10 := below_after dW hb10
  clear hb9 hb10 G9 G9' PW XW TW GW GW' SW VW dW
  go_wp2_with fail
  refine (toInputS_any A2 ins.length c2 ins _ (hs.below d10) (by omega)).mono ?_
  rintro e w11 ⟨A11, c11, rfl, hc11, K11, hb11⟩
  have P11 := P10.later hb11
  have X11 := X10.later hb11
  have T11 := T10.later hb11
  have G11 := G10.later hb11
  have G11' := G10'.later hb11
  have S11 := S10.later hb11
  have V11 := V10.later hb11
  have d11 := below_after d10 hb11
  clear hb11 P10 X10 T10 G10 G10' S10 V10 d10
  go_wp2_with fail
  refine (eqInputS_any A7 A11 ins.length ins.length c7 c11 ins ins _ (T11.sl encInp_len) (K11.sl encInp_len) (by omega) (by omega)).mono ?_
  rw [eqL_self eqInp_iff]
  rintro e w12 ⟨rfl, hb12⟩
  have P12 := P11.later hb12
  have X12 := X11.later hb12
  have T12 := T11.later hb12
  have G12 := G11.later hb12
  have G12' := G11'.later hb12
  have S12 := S11.later hb12
  have V12 := V11.later hb12
  have d12 := below_after d11 hb12
  clear hb12 P11 X11 T11 G11 G11' S11 V11 d11 K11
  obtain ⟨⟨x0, x1, x2, x3, x4, x5, x6, x7, x8, x9, x10⟩, xf⟩ := X12.c11
  go_wp2_with fail
  refine (markLevel_any l A6 A6' c6 c6' _ 1 _ G12 G12' HSEP.out (by omega) (by omega) (by omega) (by omega)).mono ?_
  rintro e w14 ⟨rfl, v13, hg13, hg14⟩
  have P14 := (P12.grown hg13 (by intro e; have := hr6.out _ e.symm; omega)).grown hg14 (by intro e; have := hr6'.out _ e.symm; omega)
  have T14 := (T12.keptN hg13 (by intro g e e1; have := hr6.out _ e1; have := T12.lt g e; omega)).keptN hg14 (by intro g e e1; have := hr6'.out _ e1; have := T12.lt g e; omega)
  have S14 := (S12.keptN hg13 (by intro g e e1; have := hr6.out _ e1; have := hSr.out g e; omega)).keptN hg14 (by intro g e e1; have := hr6'.out _ e1; have := hSr.out g e; omega)
  have V14 := (V12.keptN hg13 (by intro g e e1; have := hr6.out _ e1; have := hr8.out g e; omega)).keptN hg14 (by intro g e e1; have := hr6'.out _ e1; have := hr8.out g e; omega)
  have d14 := (d12.grown hg13 d12.size (by intro g e; have := hr6.out _ e; omega)).grown hg14 (Nat.le_trans d12.size hg13.size) (by intro g e; have := hr6'.out _ e; omega)
  clear x0 x1 x2 x3 x4 x5 x6 x7 x8 x9 x10 xf hg13 hg14 P12 X12 T12 G12 G12' S12 V12 d12
  go_wp2_with fail
  refine (markInputS_any _ _ _ _ _ _ _ T14 (by omega) (by omega) (by omega)).mono ?_
  rintro e w15 ⟨rfl, _, hg15⟩
  have P15 := P14.grown hg15 (by intro e; have := hr7.out _ e.symm; simp only [World.size_alloc] at this; omega)
  have S15 := S14.keptN hg15 (by intro g e e1; have := hr7.out _ e1; simp only [World.size_alloc] at this; have := hSr.out g e; omega)
  have V15 := V14.keptN hg15 (by intro g e e1; have := hr7.out _ e1; have := hr8.out g e; omega)
  have d15 := d14.grown hg15 d14.size (by intro g e; have := hr7.out _ e; simp only [World.size_alloc] at this; omega)
  clear hg15 P14 T14 S14 V14 d14
  go_wp2_with fail
  refine (eqIntS_same _ _ _ _ _ _ _ _ (V15.sl' encInt_len) (S15.sl' encInt_len) (by omega) (by omega)).mono ?_
  rintro e w16 ⟨rfl, hb16⟩
  have P16 := P15.later hb16
  have S16 := S15.later hb16
  have V16 := V15.later hb16
  have d16 := below_after d15 hb16
  clear hb16 P15 S15 V15 d15
  go_wp2_with fail
  refine (markIntS_any _ _ _ _ _ _ _ V16 (by omega) (by omega) (by omega)).mono ?_
  rintro e w17 ⟨rfl, V17, hg17⟩
  have P17 := P16.grown hg17 (by intro e; have := hr8.out _ e.symm; omega)
  have S17 := S16.keptN hg17 (by intro g e e1; have := hr8.out _ e1; have := hSr.out g e; omega)
  have d17 := d16.grown hg17 d16.size (by intro g e; have := hr8.out _ e; omega)
  have M17 : Sl w17 1 encInt AG RV.length (marks mkInt 1 1 RV.length) := V17.sl encInt_len
  clear hg17 P16 S16 V16 d16 V17
  go_wp2_with fail
  refine (heldIntS_any _ _ _ _ _ M17 (by omega) (by omega) (by omega)).mono ?_
  rintro e w17 ⟨rfl, rfl⟩
  obtain ⟨⟨p0, p1, p2, p3, p4, p5, p6, p7, p8, p9, p10⟩, pf⟩ := P17.c11
  go_wp2_with fail
  refine (toLevel_any l A A' c c' _ (h.below (by (repeat (first | (with_reducible assumption) | (with_reducible exact Below.refl _ _) | (with_reducible refine below_alloc ?_ _) | (with_reducible refine below_setCell ?_ ?_ _; (simp <;> omega)) | (with_reducible refine below_drew ?_) | (with_reducible refine below_drewN ?_ _) | (with_reducible refine below_after ?_ (by assumption)))))) (hg.below (by (repeat (first | (with_reducible assumption) | (with_reducible exact Below.refl _ _) | (with_reducible refine below_alloc ?_ _) | (with_reducible refine below_setCell ?_ ?_ _; (simp <;> omega)) | (with_reducible refine below_drew ?_) | (with_reducible refine below_drewN ?_ _) | (with_reducible refine below_after ?_ (by assumption)))))) (by omega) (by omega)).mono ?_
  rintro e w18 ⟨A18, c18, A18', c18', rfl, G18, G18', hb18⟩
  have S18 := S17.later hb18
  have M18 := M17.below hb18
  have d18 := below_after d17 hb18
  have e18 := own_none G18
  have e18' := own_none G18'
  have g18 := G18.sl encBx_len
  have g18' := G18'.sl encBx_len
  clear hb18 p0 p1 p2 p3 p4 p5 p6 p7 p8 p9 p10 pf P17 S17 M17 d17 G18 G18'
  go_wp2_with fail
  refine (toInputS_any A2 ins.length c2 ins _ (hs.below (by (repeat (first | (with_reducible assumption) | (with_reducible exact Below.refl _ _) | (with_reducible refine below_alloc ?_ _) | (with_reducible refine below_setCell ?_ ?_ _; (simp <;> omega)) | (with_reducible refine below_drew ?_) | (with_reducible refine below_drewN ?_ _) | (with_reducible refine below_after ?_ (by assumption)))))) (by omega)).mono ?_
  rintro e w19 ⟨A19, c19, rfl, hc19, T19, hb19⟩
  have S19 := S18.later hb19
  have M19 := M18.below hb19
  have d19 := below_after d18 hb19
  have g19 := g18.below hb19
  have g19' := g18'.below hb19
  clear hb19 S18 M18 d18 g18 g18'
  go_wp2_with fail
  refine (implRunHashes_any l ins A18 A18' A19 c18 c18' c19 _ g19 g19' e18 e18' hn1 hn2 (T19.sl encInp_len) hn3).mono ?_
  rw [HRV.out]
  rintro e w20 ⟨AH, cH, rfl, hcH, H20, hb20⟩
  have S20 := S19.later hb20
  have M20 := M19.below hb20
  have d20 := below_after d19 hb20
  clear hb20 S19 M19 d19 g19 g19' T19
  go_wp2_with fail
  refine (eqIntS_same _ _ _ _ _ _ _ _ (H20.sl' encInt_len) (S20.sl' encInt_len) (by omega) (by omega)).mono ?_
  rintro e w21 ⟨rfl, hb21⟩
  have d21 := below_after d20 hb21
  have M21 := M20.below hb21
  clear d20 M20 S20 H20 hb21
  go_wp2_with fail
  refine (heldIntS_any _ _ _ _ _ M21 (by omega) (by omega) (by omega)).mono ?_
  rintro e w21 ⟨rfl, rfl⟩
  go_wp2
  go_ret
  exact ⟨rfl, d21⟩
end Go.Proofs.Ytmfhfebakdkkdaa
