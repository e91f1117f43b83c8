/- Lemmas: DrA DrB DrC. -/
import Derived.Test.YtdpoicfciogfnaaDoorZImpB
import Derived.Test.YtdpoicfciogfnaaDoorZSpec
import Derived.Test.YtdpoicfciogfnaaDoorZRun
import Derived.Deep.RegionLaw
import Derived.Deep.RegionHeld3
import Derived.Test.YtdpoicfciogfnaaDoorZDrive
import Derived.Test.YtdpoicfciogfnaaDoorZPart
import Derived.Deep.CutRange
import Derived.Deep.LoopGhost
/- Draws of inputs: l91Input, l92Next. Printed by gen/dr1.py. -/
namespace Go.Proofs.YtdpoicfciogfnaaDoor
open Go.ChangeShapes Go.WideShapes Go.ChangeAt Go.RowKit
theorem inpOf_sm (c : Int) : smI (inpOf c) := by
  unfold inpOf smI
  split
  · simp
  · split
    · simp only; omega
    · simp
set_option maxRecDepth 100000 in
set_option maxHeartbeats 2000000 in
theorem l91Input_any (R n : Nat) (w : World) (h : RdL w R n) (hn : n ≤ 900000) : Calls Tryd.prog 76 #[.pointer (some ⟨R, 0, none⟩)] w (RetInp smI R (n + 3) w) := by
  have hRl := h.lt
  go_enter Tryd.func76, Tryd.ntmps76
  go_wp2_with fail
  refine (pick_n R n 10 _ (by (with_reducible repeat first | assumption | refine RdL.alloc ?_ _ | refine RdL.drew ?_ | refine RdL.drewN ?_ _ | refine RdL.far ?_ (by first | omega | simp <;> omega) _ | refine RdL.later ?_ ‹_›)) (by omega) (by omega) (by omega)).mono ?_
  rintro e w1 ⟨x1, rfl, x1_0, x1_1, hR1, hg1⟩
  replace hR1 : RdL w1 R (n + 1) := hR1.more (by omega)
  have Z_1 : Bk w1 (w.heap.size) 68 #[.int .i64 0, .int .i64 0, .bool false] := by (repeat first | (with_reducible first | assumption | exact kN _ _ _ (by simp) | refine kA ?_ _ | refine kD ?_ | refine kW ?_ _ | apply Bk.set' | refine kF ?_ (by simp <;> omega) _ | refine kL ?_ ‹_› | refine kG ?_ ‹_› (by first | omega | simp <;> omega)) | exact ⟨by with_reducible rfl⟩ | exact ⟨by simp⟩)
  have hgr1 : w.grownBy w1 (some R) := by (with_reducible repeat first | assumption | exact grownBy_refl _ _ | refine gr_alloc ?_ _ | refine gr_set (by first | omega | simp <;> omega) ?_ _ | refine gr_drew ?_ | refine gr_drewN ?_ _ | refine gr_after ?_ ‹_› | refine gr_below ?_ ‹_›)
  have hsz1 := hgr1.size
  clear hg1
  have hRl1 := hR1.lt
  have Zz1 := Z_1.lt
  go_wp2_with fail
  refine (specInputOf_any x1 _).mono ?_
  rintro e w2 ⟨rfl, hb2⟩
  have Z_2 : Bk w2 (w.heap.size) 68 #[.int .i64 0, .int .i64 0, .bool false] := by (repeat first | (with_reducible first | assumption | exact kN _ _ _ (by simp) | refine kA ?_ _ | refine kD ?_ | refine kW ?_ _ | apply Bk.set' | refine kF ?_ (by simp <;> omega) _ | refine kL ?_ ‹_› | refine kG ?_ ‹_› (by first | omega | simp <;> omega)) | exact ⟨by with_reducible rfl⟩ | exact ⟨by simp⟩)
  have hgr2 : w.grownBy w2 (some R) := by (with_reducible repeat first | assumption | exact grownBy_refl _ _ | refine gr_alloc ?_ _ | refine gr_set (by first | omega | simp <;> omega) ?_ _ | refine gr_drew ?_ | refine gr_drewN ?_ _ | refine gr_after ?_ ‹_› | refine gr_below ?_ ‹_›)
  have hsz2 := hgr2.size
  have hR2 : RdL w2 R (n + 1) := by (with_reducible repeat first | assumption | refine RdL.alloc ?_ _ | refine RdL.drew ?_ | refine RdL.drewN ?_ _ | refine RdL.far ?_ (by first | omega | simp <;> omega) _ | refine RdL.later ?_ ‹_›)
  clear hb2
  have hRl2 := hR2.lt
  clear Z_1 hgr1 hR1
  have Zz2 := Z_2.lt
  have hsm := inpOf_sm x1
  generalize inpOf x1 = xi at *
  obtain ⟨xs, xp, xz⟩ := xi
  obtain ⟨s1, s2, s3, s4⟩ := hsm
  simp only at s1 s2 s3 s4
  go_wp2_with fail
  refine (pick_n R (n + 1) 24 _ (by (with_reducible repeat first | assumption | refine RdL.alloc ?_ _ | refine RdL.drew ?_ | refine RdL.drewN ?_ _ | refine RdL.far ?_ (by first | omega | simp <;> omega) _ | refine RdL.later ?_ ‹_›)) (by omega) (by omega) (by omega)).mono ?_
  rintro e w3 ⟨x2, rfl, x2_0, x2_1, hR3, hg3⟩
  replace hR3 : RdL w3 R (n + 2) := hR3.more (by omega)
  have Z_3 : Bk w3 (w.heap.size) 68 #[.int .i64 0, .int .i64 0, .bool false] := by (repeat first | (with_reducible first | assumption | exact kN _ _ _ (by simp) | refine kA ?_ _ | refine kD ?_ | refine kW ?_ _ | apply Bk.set' | refine kF ?_ (by simp <;> omega) _ | refine kL ?_ ‹_› | refine kG ?_ ‹_› (by first | omega | simp <;> omega)) | exact ⟨by with_reducible rfl⟩ | exact ⟨by simp⟩)
  have X_3 : Bk w3 (w2.heap.size) 68 #[.int .i64 xs, .int .i64 xp, .bool xz] := by (repeat first | (with_reducible first | assumption | exact kN _ _ _ (by simp) | refine kA ?_ _ | refine kD ?_ | refine kW ?_ _ | apply Bk.set' | refine kF ?_ (by simp <;> omega) _ | refine kL ?_ ‹_› | refine kG ?_ ‹_› (by first | omega | simp <;> omega)) | exact ⟨by with_reducible rfl⟩ | exact ⟨by simp⟩)
  have hgr3 : w.grownBy w3 (some R) := by (with_reducible repeat first | assumption | exact grownBy_refl _ _ | refine gr_alloc ?_ _ | refine gr_set (by first | omega | simp <;> omega) ?_ _ | refine gr_drew ?_ | refine gr_drewN ?_ _ | refine gr_after ?_ ‹_› | refine gr_below ?_ ‹_›)
  have hsz3 := hgr3.size
  clear hg3
  have hRl3 := hR3.lt
  clear Z_2 hgr2 hR2
  have Zz3 := Z_3.lt
  have Xz3 := X_3.lt
  obtain ⟨⟨X3q0, X3q1, X3q2⟩, X3qf⟩ := X_3.c3
  by_cases hx0 : x2 = 0
  · subst hx0
    go_wp2_with fail
    refine (pick_n R (n + 2) 5 _ (by (with_reducible repeat first | assumption | refine RdL.alloc ?_ _ | refine RdL.drew ?_ | refine RdL.drewN ?_ _ | refine RdL.far ?_ (by first | omega | simp <;> omega) _ | refine RdL.later ?_ ‹_›)) (by omega) (by omega) (by omega)).mono ?_
    rintro e w4 ⟨x3, rfl, x3_0, x3_1, hR4, hg4⟩
    replace hR4 : RdL w4 R (n + 3) := hR4.more (by omega)
    have Z_4 : Bk w4 (w.heap.size) 68 #[.int .i64 0, .int .i64 0, .bool false] := by (repeat first | (with_reducible first | assumption | exact kN _ _ _ (by simp) | refine kA ?_ _ | refine kD ?_ | refine kW ?_ _ | apply Bk.set' | refine kF ?_ (by simp <;> omega) _ | refine kL ?_ ‹_› | refine kG ?_ ‹_› (by first | omega | simp <;> omega)) | exact ⟨by with_reducible rfl⟩ | exact ⟨by simp⟩)
    have X_4 : Bk w4 (w2.heap.size) 68 #[.int .i64 xs, .int .i64 xp, .bool xz] := by (repeat first | (with_reducible first | assumption | exact kN _ _ _ (by simp) | refine kA ?_ _ | refine kD ?_ | refine kW ?_ _ | apply Bk.set' | refine kF ?_ (by simp <;> omega) _ | refine kL ?_ ‹_› | refine kG ?_ ‹_› (by first | omega | simp <;> omega)) | exact ⟨by with_reducible rfl⟩ | exact ⟨by simp⟩)
    have hgr4 : w.grownBy w4 (some R) := by (with_reducible repeat first | assumption | exact grownBy_refl _ _ | refine gr_alloc ?_ _ | refine gr_set (by first | omega | simp <;> omega) ?_ _ | refine gr_drew ?_ | refine gr_drewN ?_ _ | refine gr_after ?_ ‹_› | refine gr_below ?_ ‹_›)
    have hsz4 := hgr4.size
    clear hg4
    have hRl4 := hR4.lt
    clear Z_3 X_3 X3q0 X3q1 X3q2 X3qf hgr3 hR3
    have Zz4 := Z_4.lt
    have Xz4 := X_4.lt
    obtain ⟨⟨X4q0, X4q1, X4q2⟩, X4qf⟩ := X_4.c3
    obtain ⟨⟨zz0, zz1, zz2⟩, zzf⟩ := Z_4.c3
    go_wp2
    exact bodyPost_ret (v := .agg #[.int .i64 (x3 - 2), .int .i64 xp, .bool xz]) (by simp [results, Tryd.results76, go_sem, *]) rfl ⟨⟨x3 - 2, xp, xz⟩, rfl, by unfold smI; simp only; omega, (show RdL _ R (n + 3) by (with_reducible repeat first | assumption | refine RdL.alloc ?_ _ | refine RdL.drew ?_ | refine RdL.drewN ?_ _ | refine RdL.far ?_ (by first | omega | simp <;> omega) _ | refine RdL.later ?_ ‹_›)).more (by omega), by (with_reducible repeat first | assumption | exact grownBy_refl _ _ | refine gr_alloc ?_ _ | refine gr_set (by first | omega | simp <;> omega) ?_ _ | refine gr_drew ?_ | refine gr_drewN ?_ _ | refine gr_after ?_ ‹_› | refine gr_below ?_ ‹_›)⟩
  · have hxb0 : (x2 == 0) = false := by simpa using hx0
    by_cases hx1 : x2 = 1
    · subst hx1
      go_wp2_with fail
      refine (pick_n R (n + 2) 5 _ (by (with_reducible repeat first | assumption | refine RdL.alloc ?_ _ | refine RdL.drew ?_ | refine RdL.drewN ?_ _ | refine RdL.far ?_ (by first | omega | simp <;> omega) _ | refine RdL.later ?_ ‹_›)) (by omega) (by omega) (by omega)).mono ?_
      rintro e w4 ⟨x3, rfl, x3_0, x3_1, hR4, hg4⟩
      replace hR4 : RdL w4 R (n + 3) := hR4.more (by omega)
      have Z_4 : Bk w4 (w.heap.size) 68 #[.int .i64 0, .int .i64 0, .bool false] := by (repeat first | (with_reducible first | assumption | exact kN _ _ _ (by simp) | refine kA ?_ _ | refine kD ?_ | refine kW ?_ _ | apply Bk.set' | refine kF ?_ (by simp <;> omega) _ | refine kL ?_ ‹_› | refine kG ?_ ‹_› (by first | omega | simp <;> omega)) | exact ⟨by with_reducible rfl⟩ | exact ⟨by simp⟩)
      have X_4 : Bk w4 (w2.heap.size) 68 #[.int .i64 xs, .int .i64 xp, .bool xz] := by (repeat first | (with_reducible first | assumption | exact kN _ _ _ (by simp) | refine kA ?_ _ | refine kD ?_ | refine kW ?_ _ | apply Bk.set' | refine kF ?_ (by simp <;> omega) _ | refine kL ?_ ‹_› | refine kG ?_ ‹_› (by first | omega | simp <;> omega)) | exact ⟨by with_reducible rfl⟩ | exact ⟨by simp⟩)
      have hgr4 : w.grownBy w4 (some R) := by (with_reducible repeat first | assumption | exact grownBy_refl _ _ | refine gr_alloc ?_ _ | refine gr_set (by first | omega | simp <;> omega) ?_ _ | refine gr_drew ?_ | refine gr_drewN ?_ _ | refine gr_after ?_ ‹_› | refine gr_below ?_ ‹_›)
      have hsz4 := hgr4.size
      clear hg4
      have hRl4 := hR4.lt
      clear Z_3 X_3 X3q0 X3q1 X3q2 X3qf hgr3 hR3
      have Zz4 := Z_4.lt
      have Xz4 := X_4.lt
      obtain ⟨⟨X4q0, X4q1, X4q2⟩, X4qf⟩ := X_4.c3
      obtain ⟨⟨zz0, zz1, zz2⟩, zzf⟩ := Z_4.c3
      go_wp2
      exact bodyPost_ret (v := .agg #[.int .i64 xs, .int .i64 (x3 - 1), .bool xz]) (by simp [results, Tryd.results76, go_sem, *]) rfl ⟨⟨xs, x3 - 1, xz⟩, rfl, by unfold smI; simp only; omega, (show RdL _ R (n + 3) by (with_reducible repeat first | assumption | refine RdL.alloc ?_ _ | refine RdL.drew ?_ | refine RdL.drewN ?_ _ | refine RdL.far ?_ (by first | omega | simp <;> omega) _ | refine RdL.later ?_ ‹_›)).more (by omega), by (with_reducible repeat first | assumption | exact grownBy_refl _ _ | refine gr_alloc ?_ _ | refine gr_set (by first | omega | simp <;> omega) ?_ _ | refine gr_drew ?_ | refine gr_drewN ?_ _ | refine gr_after ?_ ‹_› | refine gr_below ?_ ‹_›)⟩
    · have hxb1 : (x2 == 1) = false := by simpa using hx1
      by_cases hx2 : x2 = 2
      · subst hx2
        obtain ⟨⟨zz0, zz1, zz2⟩, zzf⟩ := Z_3.c3
        go_wp2
        exact bodyPost_ret (v := .agg #[.int .i64 xs, .int .i64 xp, .bool true]) (by simp [results, Tryd.results76, go_sem, *]) rfl ⟨⟨xs, xp, true⟩, rfl, by unfold smI; simp only; omega, (show RdL _ R (n + 2) by (with_reducible repeat first | assumption | refine RdL.alloc ?_ _ | refine RdL.drew ?_ | refine RdL.drewN ?_ _ | refine RdL.far ?_ (by first | omega | simp <;> omega) _ | refine RdL.later ?_ ‹_›)).more (by omega), by (with_reducible repeat first | assumption | exact grownBy_refl _ _ | refine gr_alloc ?_ _ | refine gr_set (by first | omega | simp <;> omega) ?_ _ | refine gr_drew ?_ | refine gr_drewN ?_ _ | refine gr_after ?_ ‹_› | refine gr_below ?_ ‹_›)⟩
      · have hxb2 : (x2 == 2) = false := by simpa using hx2
        obtain ⟨⟨zz0, zz1, zz2⟩, zzf⟩ := Z_3.c3
        go_wp2
        exact bodyPost_ret (v := .agg #[.int .i64 xs, .int .i64 xp, .bool xz]) (by simp [results, Tryd.results76, go_sem, *]) rfl ⟨⟨xs, xp, xz⟩, rfl, by unfold smI; simp only; omega, (show RdL _ R (n + 2) by (with_reducible repeat first | assumption | refine RdL.alloc ?_ _ | refine RdL.drew ?_ | refine RdL.drewN ?_ _ | refine RdL.far ?_ (by first | omega | simp <;> omega) _ | refine RdL.later ?_ ‹_›)).more (by omega), by (with_reducible repeat first | assumption | exact grownBy_refl _ _ | refine gr_alloc ?_ _ | refine gr_set (by first | omega | simp <;> omega) ?_ _ | refine gr_drew ?_ | refine gr_drewN ?_ _ | refine gr_after ?_ ‹_› | refine gr_below ?_ ‹_›)⟩
set_option maxRecDepth 100000 in
set_option maxHeartbeats 4000000 in
theorem l92Next_any (l : Lev) (b : Inp) (A A' : Option Addr) (c c' : Nat) (R n : Nat) (w : World) (h : RdL w R n) (hn : n ≤ 900000) (h0 : 0 ≤ l.bans) (h1 : l.bans ≤ 1000) (hb : -1 ≤ b.s ∧ b.s ≤ 1) :
    Calls Tryd.prog 97 #[.pointer (some ⟨R, 0, none⟩), .agg #[.int .i64 l.id, .int .i64 l.ticks, .int .i64 l.start.x, .int .i64 l.start.y, .slice A l.walls.length c, .slice A' l.gates.length c', .int .i64 l.fin.lo.x, .int .i64 l.fin.lo.y, .int .i64 l.fin.hi.x, .int .i64 l.fin.hi.y, .int .i64 l.bans], .agg #[.int .i64 b.s, .int .i64 b.p, .bool b.z]] w (RetInp (fun x => inpOk x = true) R (n + 3) w) := by
  have hRl := h.lt
  go_enter Tryd.func97, Tryd.ntmps97
  go_wp2_with fail
  refine (pick_n R n 12 _ (by (with_reducible repeat first | assumption | refine RdL.alloc ?_ _ | refine RdL.drew ?_ | refine RdL.drewN ?_ _ | refine RdL.far ?_ (by first | omega | simp <;> omega) _ | refine RdL.later ?_ ‹_›)) (by omega) (by omega) (by omega)).mono ?_
  rintro e w1 ⟨x2, rfl, x2_0, x2_1, hR1, hg1⟩
  replace hR1 : RdL w1 R (n + 1) := hR1.more (by omega)
  have L_1 : Bk w1 (w.heap.size) 87 #[.int .i64 l.id, .int .i64 l.ticks, .int .i64 l.start.x, .int .i64 l.start.y, .slice A l.walls.length c, .slice A' l.gates.length c', .int .i64 l.fin.lo.x, .int .i64 l.fin.lo.y, .int .i64 l.fin.hi.x, .int .i64 l.fin.hi.y, .int .i64 l.bans] := by (repeat first | (with_reducible first | assumption | exact kN _ _ _ (by simp) | refine kA ?_ _ | refine kD ?_ | refine kW ?_ _ | apply Bk.set' | refine kF ?_ (by simp <;> omega) _ | refine kL ?_ ‹_› | refine kG ?_ ‹_› (by first | omega | simp <;> omega)) | exact ⟨by with_reducible rfl⟩ | exact ⟨by simp⟩)
  have B_1 : Bk w1 (w.heap.size + 1) 68 #[.int .i64 b.s, .int .i64 b.p, .bool b.z] := by (repeat first | (with_reducible first | assumption | exact kN _ _ _ (by simp) | refine kA ?_ _ | refine kD ?_ | refine kW ?_ _ | apply Bk.set' | refine kF ?_ (by simp <;> omega) _ | refine kL ?_ ‹_› | refine kG ?_ ‹_› (by first | omega | simp <;> omega)) | exact ⟨by with_reducible rfl⟩ | exact ⟨by simp⟩)
  have Z_1 : Bk w1 (w.heap.size + 1 + 1) 68 #[.int .i64 0, .int .i64 0, .bool false] := by (repeat first | (with_reducible first | assumption | exact kN _ _ _ (by simp) | refine kA ?_ _ | refine kD ?_ | refine kW ?_ _ | apply Bk.set' | refine kF ?_ (by simp <;> omega) _ | refine kL ?_ ‹_› | refine kG ?_ ‹_› (by first | omega | simp <;> omega)) | exact ⟨by with_reducible rfl⟩ | exact ⟨by simp⟩)
  have X_1 : Bk w1 (w.heap.size + 1 + 1 + 1) 68 #[.int .i64 0, .int .i64 1, .bool false] := by (repeat first | (with_reducible first | assumption | exact kN _ _ _ (by simp) | refine kA ?_ _ | refine kD ?_ | refine kW ?_ _ | apply Bk.set' | refine kF ?_ (by simp <;> omega) _ | refine kL ?_ ‹_› | refine kG ?_ ‹_› (by first | omega | simp <;> omega)) | exact ⟨by with_reducible rfl⟩ | exact ⟨by simp⟩)
  have hgr1 : w.grownBy w1 (some R) := by (with_reducible repeat first | assumption | exact grownBy_refl _ _ | refine gr_alloc ?_ _ | refine gr_set (by first | omega | simp <;> omega) ?_ _ | refine gr_drew ?_ | refine gr_drewN ?_ _ | refine gr_after ?_ ‹_› | refine gr_below ?_ ‹_›)
  have hsz1 := hgr1.size
  clear hg1
  have hRl1 := hR1.lt
  have Lz1 := L_1.lt
  obtain ⟨⟨L1q0, L1q1, L1q2, L1q3, L1q4, L1q5, L1q6, L1q7, L1q8, L1q9, L1q10⟩, L1qf⟩ := L_1.c11
  have Bz1 := B_1.lt
  obtain ⟨⟨B1q0, B1q1, B1q2⟩, B1qf⟩ := B_1.c3
  have Zz1 := Z_1.lt
  obtain ⟨⟨Z1q0, Z1q1, Z1q2⟩, Z1qf⟩ := Z_1.c3
  have Xz1 := X_1.lt
  obtain ⟨⟨X1q0, X1q1, X1q2⟩, X1qf⟩ := X_1.c3
  by_cases hx0 : x2 = 0
  · subst hx0
    go_wp2_with fail
    refine (pick_n R (n + 1) 3 _ (by (with_reducible repeat first | assumption | refine RdL.alloc ?_ _ | refine RdL.drew ?_ | refine RdL.drewN ?_ _ | refine RdL.far ?_ (by first | omega | simp <;> omega) _ | refine RdL.later ?_ ‹_›)) (by omega) (by omega) (by omega)).mono ?_
    rintro e w2 ⟨x3, rfl, x3_0, x3_1, hR2, hg2⟩
    replace hR2 : RdL w2 R (n + 2) := hR2.more (by omega)
    have L_2 : Bk w2 (w.heap.size) 87 #[.int .i64 l.id, .int .i64 l.ticks, .int .i64 l.start.x, .int .i64 l.start.y, .slice A l.walls.length c, .slice A' l.gates.length c', .int .i64 l.fin.lo.x, .int .i64 l.fin.lo.y, .int .i64 l.fin.hi.x, .int .i64 l.fin.hi.y, .int .i64 l.bans] := by (repeat first | (with_reducible first | assumption | exact kN _ _ _ (by simp) | refine kA ?_ _ | refine kD ?_ | refine kW ?_ _ | apply Bk.set' | refine kF ?_ (by simp <;> omega) _ | refine kL ?_ ‹_› | refine kG ?_ ‹_› (by first | omega | simp <;> omega)) | exact ⟨by with_reducible rfl⟩ | exact ⟨by simp⟩)
    have B_2 : Bk w2 (w.heap.size + 1) 68 #[.int .i64 b.s, .int .i64 b.p, .bool b.z] := by (repeat first | (with_reducible first | assumption | exact kN _ _ _ (by simp) | refine kA ?_ _ | refine kD ?_ | refine kW ?_ _ | apply Bk.set' | refine kF ?_ (by simp <;> omega) _ | refine kL ?_ ‹_› | refine kG ?_ ‹_› (by first | omega | simp <;> omega)) | exact ⟨by with_reducible rfl⟩ | exact ⟨by simp⟩)
    have Z_2 : Bk w2 (w.heap.size + 1 + 1) 68 #[.int .i64 0, .int .i64 0, .bool false] := by (repeat first | (with_reducible first | assumption | exact kN _ _ _ (by simp) | refine kA ?_ _ | refine kD ?_ | refine kW ?_ _ | apply Bk.set' | refine kF ?_ (by simp <;> omega) _ | refine kL ?_ ‹_› | refine kG ?_ ‹_› (by first | omega | simp <;> omega)) | exact ⟨by with_reducible rfl⟩ | exact ⟨by simp⟩)
    have X_2 : Bk w2 (w.heap.size + 1 + 1 + 1) 68 #[.int .i64 0, .int .i64 1, .bool false] := by (repeat first | (with_reducible first | assumption | exact kN _ _ _ (by simp) | refine kA ?_ _ | refine kD ?_ | refine kW ?_ _ | apply Bk.set' | refine kF ?_ (by simp <;> omega) _ | refine kL ?_ ‹_› | refine kG ?_ ‹_› (by first | omega | simp <;> omega)) | exact ⟨by with_reducible rfl⟩ | exact ⟨by simp⟩)
    have hgr2 : w.grownBy w2 (some R) := by (with_reducible repeat first | assumption | exact grownBy_refl _ _ | refine gr_alloc ?_ _ | refine gr_set (by first | omega | simp <;> omega) ?_ _ | refine gr_drew ?_ | refine gr_drewN ?_ _ | refine gr_after ?_ ‹_› | refine gr_below ?_ ‹_›)
    have hsz2 := hgr2.size
    clear hg2
    have hRl2 := hR2.lt
    clear L_1 L1q0 L1q1 L1q2 L1q3 L1q4 L1q5 L1q6 L1q7 L1q8 L1q9 L1q10 L1qf B_1 B1q0 B1q1 B1q2 B1qf Z_1 Z1q0 Z1q1 Z1q2 Z1qf X_1 X1q0 X1q1 X1q2 X1qf hgr1 hR1
    have Lz2 := L_2.lt
    obtain ⟨⟨L2q0, L2q1, L2q2, L2q3, L2q4, L2q5, L2q6, L2q7, L2q8, L2q9, L2q10⟩, L2qf⟩ := L_2.c11
    have Bz2 := B_2.lt
    obtain ⟨⟨B2q0, B2q1, B2q2⟩, B2qf⟩ := B_2.c3
    have Zz2 := Z_2.lt
    obtain ⟨⟨Z2q0, Z2q1, Z2q2⟩, Z2qf⟩ := Z_2.c3
    have Xz2 := X_2.lt
    obtain ⟨⟨X2q0, X2q1, X2q2⟩, X2qf⟩ := X_2.c3
    go_wp2_with fail
    refine (l12Follows_any l b ⟨0, x3, false⟩ _ _ _ _ _ h0 h1 hb).mono ?_
    rintro e w3 ⟨rfl, hb3⟩
    have L_3 : Bk w3 (w.heap.size) 87 #[.int .i64 l.id, .int .i64 l.ticks, .int .i64 l.start.x, .int .i64 l.start.y, .slice A l.walls.length c, .slice A' l.gates.length c', .int .i64 l.fin.lo.x, .int .i64 l.fin.lo.y, .int .i64 l.fin.hi.x, .int .i64 l.fin.hi.y, .int .i64 l.bans] := by (repeat first | (with_reducible first | assumption | exact kN _ _ _ (by simp) | refine kA ?_ _ | refine kD ?_ | refine kW ?_ _ | apply Bk.set' | refine kF ?_ (by simp <;> omega) _ | refine kL ?_ ‹_› | refine kG ?_ ‹_› (by first | omega | simp <;> omega)) | exact ⟨by with_reducible rfl⟩ | exact ⟨by simp⟩)
    have B_3 : Bk w3 (w.heap.size + 1) 68 #[.int .i64 b.s, .int .i64 b.p, .bool b.z] := by (repeat first | (with_reducible first | assumption | exact kN _ _ _ (by simp) | refine kA ?_ _ | refine kD ?_ | refine kW ?_ _ | apply Bk.set' | refine kF ?_ (by simp <;> omega) _ | refine kL ?_ ‹_› | refine kG ?_ ‹_› (by first | omega | simp <;> omega)) | exact ⟨by with_reducible rfl⟩ | exact ⟨by simp⟩)
    have Z_3 : Bk w3 (w.heap.size + 1 + 1) 68 #[.int .i64 0, .int .i64 0, .bool false] := by (repeat first | (with_reducible first | assumption | exact kN _ _ _ (by simp) | refine kA ?_ _ | refine kD ?_ | refine kW ?_ _ | apply Bk.set' | refine kF ?_ (by simp <;> omega) _ | refine kL ?_ ‹_› | refine kG ?_ ‹_› (by first | omega | simp <;> omega)) | exact ⟨by with_reducible rfl⟩ | exact ⟨by simp⟩)
    have X_3 : Bk w3 (w.heap.size + 1 + 1 + 1) 68 #[.int .i64 0, .int .i64 x3, .bool false] := by (repeat first | (with_reducible first | assumption | exact kN _ _ _ (by simp) | refine kA ?_ _ | refine kD ?_ | refine kW ?_ _ | apply Bk.set' | refine kF ?_ (by simp <;> omega) _ | refine kL ?_ ‹_› | refine kG ?_ ‹_› (by first | omega | simp <;> omega)) | exact ⟨by with_reducible rfl⟩ | exact ⟨by simp⟩)
    have hgr3 : w.grownBy w3 (some R) := by (with_reducible repeat first | assumption | exact grownBy_refl _ _ | refine gr_alloc ?_ _ | refine gr_set (by first | omega | simp <;> omega) ?_ _ | refine gr_drew ?_ | refine gr_drewN ?_ _ | refine gr_after ?_ ‹_› | refine gr_below ?_ ‹_›)
    have hsz3 := hgr3.size
    have hR3 : RdL w3 R (n + 2) := by (with_reducible repeat first | assumption | refine RdL.alloc ?_ _ | refine RdL.drew ?_ | refine RdL.drewN ?_ _ | refine RdL.far ?_ (by first | omega | simp <;> omega) _ | refine RdL.later ?_ ‹_›)
    clear hb3
    have hRl3 := hR3.lt
    clear L_2 L2q0 L2q1 L2q2 L2q3 L2q4 L2q5 L2q6 L2q7 L2q8 L2q9 L2q10 L2qf B_2 B2q0 B2q1 B2q2 B2qf Z_2 Z2q0 Z2q1 Z2q2 Z2qf X_2 X2q0 X2q1 X2q2 X2qf hgr2 hR2
    have Lz3 := L_3.lt
    obtain ⟨⟨L3q0, L3q1, L3q2, L3q3, L3q4, L3q5, L3q6, L3q7, L3q8, L3q9, L3q10⟩, L3qf⟩ := L_3.c11
    have Bz3 := B_3.lt
    obtain ⟨⟨B3q0, B3q1, B3q2⟩, B3qf⟩ := B_3.c3
    have Zz3 := Z_3.lt
    obtain ⟨⟨Z3q0, Z3q1, Z3q2⟩, Z3qf⟩ := Z_3.c3
    have Xz3 := X_3.lt
    obtain ⟨⟨X3q0, X3q1, X3q2⟩, X3qf⟩ := X_3.c3
    cases hF : folB l b.s ⟨0, x3, false⟩
    · go_wp2
      exact bodyPost_ret (v := .agg #[.int .i64 0, .int .i64 1, .bool false]) (by simp [results, Tryd.results97, go_sem, *]) rfl ⟨⟨0, 1, false⟩, rfl, by decide, (show RdL _ R (n + 2) by (with_reducible repeat first | assumption | refine RdL.alloc ?_ _ | refine RdL.drew ?_ | refine RdL.drewN ?_ _ | refine RdL.far ?_ (by first | omega | simp <;> omega) _ | refine RdL.later ?_ ‹_›)).more (by omega), by (with_reducible repeat first | assumption | exact grownBy_refl _ _ | refine gr_alloc ?_ _ | refine gr_set (by first | omega | simp <;> omega) ?_ _ | refine gr_drew ?_ | refine gr_drewN ?_ _ | refine gr_after ?_ ‹_› | refine gr_below ?_ ‹_›)⟩
    · have hOk := Lib.hid (folB_inp hF)
      go_wp2
      exact bodyPost_ret (v := .agg #[.int .i64 0, .int .i64 x3, .bool false]) (by simp [results, Tryd.results97, go_sem, *]) rfl ⟨⟨0, x3, false⟩, rfl, hOk.out, (show RdL _ R (n + 2) by (with_reducible repeat first | assumption | refine RdL.alloc ?_ _ | refine RdL.drew ?_ | refine RdL.drewN ?_ _ | refine RdL.far ?_ (by first | omega | simp <;> omega) _ | refine RdL.later ?_ ‹_›)).more (by omega), by (with_reducible repeat first | assumption | exact grownBy_refl _ _ | refine gr_alloc ?_ _ | refine gr_set (by first | omega | simp <;> omega) ?_ _ | refine gr_drew ?_ | refine gr_drewN ?_ _ | refine gr_after ?_ ‹_› | refine gr_below ?_ ‹_›)⟩
  · have hxb0 : (x2 == 0) = false := by simpa using hx0
    by_cases hx1 : x2 = 1
    · subst hx1
      go_wp2_with fail
      refine (pick_n R (n + 1) 3 _ (by (with_reducible repeat first | assumption | refine RdL.alloc ?_ _ | refine RdL.drew ?_ | refine RdL.drewN ?_ _ | refine RdL.far ?_ (by first | omega | simp <;> omega) _ | refine RdL.later ?_ ‹_›)) (by omega) (by omega) (by omega)).mono ?_
      rintro e w2 ⟨x3, rfl, x3_0, x3_1, hR2, hg2⟩
      replace hR2 : RdL w2 R (n + 2) := hR2.more (by omega)
      have L_2 : Bk w2 (w.heap.size) 87 #[.int .i64 l.id, .int .i64 l.ticks, .int .i64 l.start.x, .int .i64 l.start.y, .slice A l.walls.length c, .slice A' l.gates.length c', .int .i64 l.fin.lo.x, .int .i64 l.fin.lo.y, .int .i64 l.fin.hi.x, .int .i64 l.fin.hi.y, .int .i64 l.bans] := by (repeat first | (with_reducible first | assumption | exact kN _ _ _ (by simp) | refine kA ?_ _ | refine kD ?_ | refine kW ?_ _ | apply Bk.set' | refine kF ?_ (by simp <;> omega) _ | refine kL ?_ ‹_› | refine kG ?_ ‹_› (by first | omega | simp <;> omega)) | exact ⟨by with_reducible rfl⟩ | exact ⟨by simp⟩)
      have B_2 : Bk w2 (w.heap.size + 1) 68 #[.int .i64 b.s, .int .i64 b.p, .bool b.z] := by (repeat first | (with_reducible first | assumption | exact kN _ _ _ (by simp) | refine kA ?_ _ | refine kD ?_ | refine kW ?_ _ | apply Bk.set' | refine kF ?_ (by simp <;> omega) _ | refine kL ?_ ‹_› | refine kG ?_ ‹_› (by first | omega | simp <;> omega)) | exact ⟨by with_reducible rfl⟩ | exact ⟨by simp⟩)
      have Z_2 : Bk w2 (w.heap.size + 1 + 1) 68 #[.int .i64 0, .int .i64 0, .bool false] := by (repeat first | (with_reducible first | assumption | exact kN _ _ _ (by simp) | refine kA ?_ _ | refine kD ?_ | refine kW ?_ _ | apply Bk.set' | refine kF ?_ (by simp <;> omega) _ | refine kL ?_ ‹_› | refine kG ?_ ‹_› (by first | omega | simp <;> omega)) | exact ⟨by with_reducible rfl⟩ | exact ⟨by simp⟩)
      have X_2 : Bk w2 (w.heap.size + 1 + 1 + 1) 68 #[.int .i64 0, .int .i64 1, .bool false] := by (repeat first | (with_reducible first | assumption | exact kN _ _ _ (by simp) | refine kA ?_ _ | refine kD ?_ | refine kW ?_ _ | apply Bk.set' | refine kF ?_ (by simp <;> omega) _ | refine kL ?_ ‹_› | refine kG ?_ ‹_› (by first | omega | simp <;> omega)) | exact ⟨by with_reducible rfl⟩ | exact ⟨by simp⟩)
      have hgr2 : w.grownBy w2 (some R) := by (with_reducible repeat first | assumption | exact grownBy_refl _ _ | refine gr_alloc ?_ _ | refine gr_set (by first | omega | simp <;> omega) ?_ _ | refine gr_drew ?_ | refine gr_drewN ?_ _ | refine gr_after ?_ ‹_› | refine gr_below ?_ ‹_›)
      have hsz2 := hgr2.size
      clear hg2
      have hRl2 := hR2.lt
      clear L_1 L1q0 L1q1 L1q2 L1q3 L1q4 L1q5 L1q6 L1q7 L1q8 L1q9 L1q10 L1qf B_1 B1q0 B1q1 B1q2 B1qf Z_1 Z1q0 Z1q1 Z1q2 Z1qf X_1 X1q0 X1q1 X1q2 X1qf hgr1 hR1
      have Lz2 := L_2.lt
      obtain ⟨⟨L2q0, L2q1, L2q2, L2q3, L2q4, L2q5, L2q6, L2q7, L2q8, L2q9, L2q10⟩, L2qf⟩ := L_2.c11
      have Bz2 := B_2.lt
      obtain ⟨⟨B2q0, B2q1, B2q2⟩, B2qf⟩ := B_2.c3
      have Zz2 := Z_2.lt
      obtain ⟨⟨Z2q0, Z2q1, Z2q2⟩, Z2qf⟩ := Z_2.c3
      have Xz2 := X_2.lt
      obtain ⟨⟨X2q0, X2q1, X2q2⟩, X2qf⟩ := X_2.c3
      go_wp2_with fail
      refine (l12Follows_any l b ⟨x3 - 1, 1, false⟩ _ _ _ _ _ h0 h1 hb).mono ?_
      rintro e w3 ⟨rfl, hb3⟩
      have L_3 : Bk w3 (w.heap.size) 87 #[.int .i64 l.id, .int .i64 l.ticks, .int .i64 l.start.x, .int .i64 l.start.y, .slice A l.walls.length c, .slice A' l.gates.length c', .int .i64 l.fin.lo.x, .int .i64 l.fin.lo.y, .int .i64 l.fin.hi.x, .int .i64 l.fin.hi.y, .int .i64 l.bans] := by (repeat first | (with_reducible first | assumption | exact kN _ _ _ (by simp) | refine kA ?_ _ | refine kD ?_ | refine kW ?_ _ | apply Bk.set' | refine kF ?_ (by simp <;> omega) _ | refine kL ?_ ‹_› | refine kG ?_ ‹_› (by first | omega | simp <;> omega)) | exact ⟨by with_reducible rfl⟩ | exact ⟨by simp⟩)
      have B_3 : Bk w3 (w.heap.size + 1) 68 #[.int .i64 b.s, .int .i64 b.p, .bool b.z] := by (repeat first | (with_reducible first | assumption | exact kN _ _ _ (by simp) | refine kA ?_ _ | refine kD ?_ | refine kW ?_ _ | apply Bk.set' | refine kF ?_ (by simp <;> omega) _ | refine kL ?_ ‹_› | refine kG ?_ ‹_› (by first | omega | simp <;> omega)) | exact ⟨by with_reducible rfl⟩ | exact ⟨by simp⟩)
      have Z_3 : Bk w3 (w.heap.size + 1 + 1) 68 #[.int .i64 0, .int .i64 0, .bool false] := by (repeat first | (with_reducible first | assumption | exact kN _ _ _ (by simp) | refine kA ?_ _ | refine kD ?_ | refine kW ?_ _ | apply Bk.set' | refine kF ?_ (by simp <;> omega) _ | refine kL ?_ ‹_› | refine kG ?_ ‹_› (by first | omega | simp <;> omega)) | exact ⟨by with_reducible rfl⟩ | exact ⟨by simp⟩)
      have X_3 : Bk w3 (w.heap.size + 1 + 1 + 1) 68 #[.int .i64 (x3 - 1), .int .i64 1, .bool false] := by (repeat first | (with_reducible first | assumption | exact kN _ _ _ (by simp) | refine kA ?_ _ | refine kD ?_ | refine kW ?_ _ | apply Bk.set' | refine kF ?_ (by simp <;> omega) _ | refine kL ?_ ‹_› | refine kG ?_ ‹_› (by first | omega | simp <;> omega)) | exact ⟨by with_reducible rfl⟩ | exact ⟨by simp⟩)
      have hgr3 : w.grownBy w3 (some R) := by (with_reducible repeat first | assumption | exact grownBy_refl _ _ | refine gr_alloc ?_ _ | refine gr_set (by first | omega | simp <;> omega) ?_ _ | refine gr_drew ?_ | refine gr_drewN ?_ _ | refine gr_after ?_ ‹_› | refine gr_below ?_ ‹_›)
      have hsz3 := hgr3.size
      have hR3 : RdL w3 R (n + 2) := by (with_reducible repeat first | assumption | refine RdL.alloc ?_ _ | refine RdL.drew ?_ | refine RdL.drewN ?_ _ | refine RdL.far ?_ (by first | omega | simp <;> omega) _ | refine RdL.later ?_ ‹_›)
      clear hb3
      have hRl3 := hR3.lt
      clear L_2 L2q0 L2q1 L2q2 L2q3 L2q4 L2q5 L2q6 L2q7 L2q8 L2q9 L2q10 L2qf B_2 B2q0 B2q1 B2q2 B2qf Z_2 Z2q0 Z2q1 Z2q2 Z2qf X_2 X2q0 X2q1 X2q2 X2qf hgr2 hR2
      have Lz3 := L_3.lt
      obtain ⟨⟨L3q0, L3q1, L3q2, L3q3, L3q4, L3q5, L3q6, L3q7, L3q8, L3q9, L3q10⟩, L3qf⟩ := L_3.c11
      have Bz3 := B_3.lt
      obtain ⟨⟨B3q0, B3q1, B3q2⟩, B3qf⟩ := B_3.c3
      have Zz3 := Z_3.lt
      obtain ⟨⟨Z3q0, Z3q1, Z3q2⟩, Z3qf⟩ := Z_3.c3
      have Xz3 := X_3.lt
      obtain ⟨⟨X3q0, X3q1, X3q2⟩, X3qf⟩ := X_3.c3
      cases hF : folB l b.s ⟨x3 - 1, 1, false⟩
      · go_wp2
        exact bodyPost_ret (v := .agg #[.int .i64 0, .int .i64 1, .bool false]) (by simp [results, Tryd.results97, go_sem, *]) rfl ⟨⟨0, 1, false⟩, rfl, by decide, (show RdL _ R (n + 2) by (with_reducible repeat first | assumption | refine RdL.alloc ?_ _ | refine RdL.drew ?_ | refine RdL.drewN ?_ _ | refine RdL.far ?_ (by first | omega | simp <;> omega) _ | refine RdL.later ?_ ‹_›)).more (by omega), by (with_reducible repeat first | assumption | exact grownBy_refl _ _ | refine gr_alloc ?_ _ | refine gr_set (by first | omega | simp <;> omega) ?_ _ | refine gr_drew ?_ | refine gr_drewN ?_ _ | refine gr_after ?_ ‹_› | refine gr_below ?_ ‹_›)⟩
      · have hOk := Lib.hid (folB_inp hF)
        go_wp2
        exact bodyPost_ret (v := .agg #[.int .i64 (x3 - 1), .int .i64 1, .bool false]) (by simp [results, Tryd.results97, go_sem, *]) rfl ⟨⟨x3 - 1, 1, false⟩, rfl, hOk.out, (show RdL _ R (n + 2) by (with_reducible repeat first | assumption | refine RdL.alloc ?_ _ | refine RdL.drew ?_ | refine RdL.drewN ?_ _ | refine RdL.far ?_ (by first | omega | simp <;> omega) _ | refine RdL.later ?_ ‹_›)).more (by omega), by (with_reducible repeat first | assumption | exact grownBy_refl _ _ | refine gr_alloc ?_ _ | refine gr_set (by first | omega | simp <;> omega) ?_ _ | refine gr_drew ?_ | refine gr_drewN ?_ _ | refine gr_after ?_ ‹_› | refine gr_below ?_ ‹_›)⟩
    · have hxb1 : (x2 == 1) = false := by simpa using hx1
      by_cases hx2 : x2 = 2
      · subst hx2
        go_wp2_with fail
        refine (pick_n R (n + 1) 3 _ (by (with_reducible repeat first | assumption | refine RdL.alloc ?_ _ | refine RdL.drew ?_ | refine RdL.drewN ?_ _ | refine RdL.far ?_ (by first | omega | simp <;> omega) _ | refine RdL.later ?_ ‹_›)) (by omega) (by omega) (by omega)).mono ?_
        rintro e w2 ⟨x3, rfl, x3_0, x3_1, hR2, hg2⟩
        replace hR2 : RdL w2 R (n + 2) := hR2.more (by omega)
        have L_2 : Bk w2 (w.heap.size) 87 #[.int .i64 l.id, .int .i64 l.ticks, .int .i64 l.start.x, .int .i64 l.start.y, .slice A l.walls.length c, .slice A' l.gates.length c', .int .i64 l.fin.lo.x, .int .i64 l.fin.lo.y, .int .i64 l.fin.hi.x, .int .i64 l.fin.hi.y, .int .i64 l.bans] := by (repeat first | (with_reducible first | assumption | exact kN _ _ _ (by simp) | refine kA ?_ _ | refine kD ?_ | refine kW ?_ _ | apply Bk.set' | refine kF ?_ (by simp <;> omega) _ | refine kL ?_ ‹_› | refine kG ?_ ‹_› (by first | omega | simp <;> omega)) | exact ⟨by with_reducible rfl⟩ | exact ⟨by simp⟩)
        have B_2 : Bk w2 (w.heap.size + 1) 68 #[.int .i64 b.s, .int .i64 b.p, .bool b.z] := by (repeat first | (with_reducible first | assumption | exact kN _ _ _ (by simp) | refine kA ?_ _ | refine kD ?_ | refine kW ?_ _ | apply Bk.set' | refine kF ?_ (by simp <;> omega) _ | refine kL ?_ ‹_› | refine kG ?_ ‹_› (by first | omega | simp <;> omega)) | exact ⟨by with_reducible rfl⟩ | exact ⟨by simp⟩)
        have Z_2 : Bk w2 (w.heap.size + 1 + 1) 68 #[.int .i64 0, .int .i64 0, .bool false] := by (repeat first | (with_reducible first | assumption | exact kN _ _ _ (by simp) | refine kA ?_ _ | refine kD ?_ | refine kW ?_ _ | apply Bk.set' | refine kF ?_ (by simp <;> omega) _ | refine kL ?_ ‹_› | refine kG ?_ ‹_› (by first | omega | simp <;> omega)) | exact ⟨by with_reducible rfl⟩ | exact ⟨by simp⟩)
        have X_2 : Bk w2 (w.heap.size + 1 + 1 + 1) 68 #[.int .i64 0, .int .i64 1, .bool false] := by (repeat first | (with_reducible first | assumption | exact kN _ _ _ (by simp) | refine kA ?_ _ | refine kD ?_ | refine kW ?_ _ | apply Bk.set' | refine kF ?_ (by simp <;> omega) _ | refine kL ?_ ‹_› | refine kG ?_ ‹_› (by first | omega | simp <;> omega)) | exact ⟨by with_reducible rfl⟩ | exact ⟨by simp⟩)
        have hgr2 : w.grownBy w2 (some R) := by (with_reducible repeat first | assumption | exact grownBy_refl _ _ | refine gr_alloc ?_ _ | refine gr_set (by first | omega | simp <;> omega) ?_ _ | refine gr_drew ?_ | refine gr_drewN ?_ _ | refine gr_after ?_ ‹_› | refine gr_below ?_ ‹_›)
        have hsz2 := hgr2.size
        clear hg2
        have hRl2 := hR2.lt
        clear L_1 L1q0 L1q1 L1q2 L1q3 L1q4 L1q5 L1q6 L1q7 L1q8 L1q9 L1q10 L1qf B_1 B1q0 B1q1 B1q2 B1qf Z_1 Z1q0 Z1q1 Z1q2 Z1qf X_1 X1q0 X1q1 X1q2 X1qf hgr1 hR1
        have Lz2 := L_2.lt
        obtain ⟨⟨L2q0, L2q1, L2q2, L2q3, L2q4, L2q5, L2q6, L2q7, L2q8, L2q9, L2q10⟩, L2qf⟩ := L_2.c11
        have Bz2 := B_2.lt
        obtain ⟨⟨B2q0, B2q1, B2q2⟩, B2qf⟩ := B_2.c3
        have Zz2 := Z_2.lt
        obtain ⟨⟨Z2q0, Z2q1, Z2q2⟩, Z2qf⟩ := Z_2.c3
        have Xz2 := X_2.lt
        obtain ⟨⟨X2q0, X2q1, X2q2⟩, X2qf⟩ := X_2.c3
        go_wp2_with fail
        refine (l12Follows_any l b ⟨x3 - 1, 1, false⟩ _ _ _ _ _ h0 h1 hb).mono ?_
        rintro e w3 ⟨rfl, hb3⟩
        have L_3 : Bk w3 (w.heap.size) 87 #[.int .i64 l.id, .int .i64 l.ticks, .int .i64 l.start.x, .int .i64 l.start.y, .slice A l.walls.length c, .slice A' l.gates.length c', .int .i64 l.fin.lo.x, .int .i64 l.fin.lo.y, .int .i64 l.fin.hi.x, .int .i64 l.fin.hi.y, .int .i64 l.bans] := by (repeat first | (with_reducible first | assumption | exact kN _ _ _ (by simp) | refine kA ?_ _ | refine kD ?_ | refine kW ?_ _ | apply Bk.set' | refine kF ?_ (by simp <;> omega) _ | refine kL ?_ ‹_› | refine kG ?_ ‹_› (by first | omega | simp <;> omega)) | exact ⟨by with_reducible rfl⟩ | exact ⟨by simp⟩)
        have B_3 : Bk w3 (w.heap.size + 1) 68 #[.int .i64 b.s, .int .i64 b.p, .bool b.z] := by (repeat first | (with_reducible first | assumption | exact kN _ _ _ (by simp) | refine kA ?_ _ | refine kD ?_ | refine kW ?_ _ | apply Bk.set' | refine kF ?_ (by simp <;> omega) _ | refine kL ?_ ‹_› | refine kG ?_ ‹_› (by first | omega | simp <;> omega)) | exact ⟨by with_reducible rfl⟩ | exact ⟨by simp⟩)
        have Z_3 : Bk w3 (w.heap.size + 1 + 1) 68 #[.int .i64 0, .int .i64 0, .bool false] := by (repeat first | (with_reducible first | assumption | exact kN _ _ _ (by simp) | refine kA ?_ _ | refine kD ?_ | refine kW ?_ _ | apply Bk.set' | refine kF ?_ (by simp <;> omega) _ | refine kL ?_ ‹_› | refine kG ?_ ‹_› (by first | omega | simp <;> omega)) | exact ⟨by with_reducible rfl⟩ | exact ⟨by simp⟩)
        have X_3 : Bk w3 (w.heap.size + 1 + 1 + 1) 68 #[.int .i64 (x3 - 1), .int .i64 1, .bool false] := by (repeat first | (with_reducible first | assumption | exact kN _ _ _ (by simp) | refine kA ?_ _ | refine kD ?_ | refine kW ?_ _ | apply Bk.set' | refine kF ?_ (by simp <;> omega) _ | refine kL ?_ ‹_› | refine kG ?_ ‹_› (by first | omega | simp <;> omega)) | exact ⟨by with_reducible rfl⟩ | exact ⟨by simp⟩)
        have hgr3 : w.grownBy w3 (some R) := by (with_reducible repeat first | assumption | exact grownBy_refl _ _ | refine gr_alloc ?_ _ | refine gr_set (by first | omega | simp <;> omega) ?_ _ | refine gr_drew ?_ | refine gr_drewN ?_ _ | refine gr_after ?_ ‹_› | refine gr_below ?_ ‹_›)
        have hsz3 := hgr3.size
        have hR3 : RdL w3 R (n + 2) := by (with_reducible repeat first | assumption | refine RdL.alloc ?_ _ | refine RdL.drew ?_ | refine RdL.drewN ?_ _ | refine RdL.far ?_ (by first | omega | simp <;> omega) _ | refine RdL.later ?_ ‹_›)
        clear hb3
        have hRl3 := hR3.lt
        clear L_2 L2q0 L2q1 L2q2 L2q3 L2q4 L2q5 L2q6 L2q7 L2q8 L2q9 L2q10 L2qf B_2 B2q0 B2q1 B2q2 B2qf Z_2 Z2q0 Z2q1 Z2q2 Z2qf X_2 X2q0 X2q1 X2q2 X2qf hgr2 hR2
        have Lz3 := L_3.lt
        obtain ⟨⟨L3q0, L3q1, L3q2, L3q3, L3q4, L3q5, L3q6, L3q7, L3q8, L3q9, L3q10⟩, L3qf⟩ := L_3.c11
        have Bz3 := B_3.lt
        obtain ⟨⟨B3q0, B3q1, B3q2⟩, B3qf⟩ := B_3.c3
        have Zz3 := Z_3.lt
        obtain ⟨⟨Z3q0, Z3q1, Z3q2⟩, Z3qf⟩ := Z_3.c3
        have Xz3 := X_3.lt
        obtain ⟨⟨X3q0, X3q1, X3q2⟩, X3qf⟩ := X_3.c3
        cases hF : folB l b.s ⟨x3 - 1, 1, false⟩
        · go_wp2
          exact bodyPost_ret (v := .agg #[.int .i64 0, .int .i64 1, .bool false]) (by simp [results, Tryd.results97, go_sem, *]) rfl ⟨⟨0, 1, false⟩, rfl, by decide, (show RdL _ R (n + 2) by (with_reducible repeat first | assumption | refine RdL.alloc ?_ _ | refine RdL.drew ?_ | refine RdL.drewN ?_ _ | refine RdL.far ?_ (by first | omega | simp <;> omega) _ | refine RdL.later ?_ ‹_›)).more (by omega), by (with_reducible repeat first | assumption | exact grownBy_refl _ _ | refine gr_alloc ?_ _ | refine gr_set (by first | omega | simp <;> omega) ?_ _ | refine gr_drew ?_ | refine gr_drewN ?_ _ | refine gr_after ?_ ‹_› | refine gr_below ?_ ‹_›)⟩
        · have hOk := Lib.hid (folB_inp hF)
          go_wp2
          exact bodyPost_ret (v := .agg #[.int .i64 (x3 - 1), .int .i64 1, .bool false]) (by simp [results, Tryd.results97, go_sem, *]) rfl ⟨⟨x3 - 1, 1, false⟩, rfl, hOk.out, (show RdL _ R (n + 2) by (with_reducible repeat first | assumption | refine RdL.alloc ?_ _ | refine RdL.drew ?_ | refine RdL.drewN ?_ _ | refine RdL.far ?_ (by first | omega | simp <;> omega) _ | refine RdL.later ?_ ‹_›)).more (by omega), by (with_reducible repeat first | assumption | exact grownBy_refl _ _ | refine gr_alloc ?_ _ | refine gr_set (by first | omega | simp <;> omega) ?_ _ | refine gr_drew ?_ | refine gr_drewN ?_ _ | refine gr_after ?_ ‹_› | refine gr_below ?_ ‹_›)⟩
      · have hxb2 : (x2 == 2) = false := by simpa using hx2
        by_cases hx3 : x2 = 3
        · subst hx3
          go_wp2_with fail
          refine (pick_n R (n + 1) 10 _ (by (with_reducible repeat first | assumption | refine RdL.alloc ?_ _ | refine RdL.drew ?_ | refine RdL.drewN ?_ _ | refine RdL.far ?_ (by first | omega | simp <;> omega) _ | refine RdL.later ?_ ‹_›)) (by omega) (by omega) (by omega)).mono ?_
          rintro e w2 ⟨x3, rfl, x3_0, x3_1, hR2, hg2⟩
          replace hR2 : RdL w2 R (n + 2) := hR2.more (by omega)
          have L_2 : Bk w2 (w.heap.size) 87 #[.int .i64 l.id, .int .i64 l.ticks, .int .i64 l.start.x, .int .i64 l.start.y, .slice A l.walls.length c, .slice A' l.gates.length c', .int .i64 l.fin.lo.x, .int .i64 l.fin.lo.y, .int .i64 l.fin.hi.x, .int .i64 l.fin.hi.y, .int .i64 l.bans] := by (repeat first | (with_reducible first | assumption | exact kN _ _ _ (by simp) | refine kA ?_ _ | refine kD ?_ | refine kW ?_ _ | apply Bk.set' | refine kF ?_ (by simp <;> omega) _ | refine kL ?_ ‹_› | refine kG ?_ ‹_› (by first | omega | simp <;> omega)) | exact ⟨by with_reducible rfl⟩ | exact ⟨by simp⟩)
          have B_2 : Bk w2 (w.heap.size + 1) 68 #[.int .i64 b.s, .int .i64 b.p, .bool b.z] := by (repeat first | (with_reducible first | assumption | exact kN _ _ _ (by simp) | refine kA ?_ _ | refine kD ?_ | refine kW ?_ _ | apply Bk.set' | refine kF ?_ (by simp <;> omega) _ | refine kL ?_ ‹_› | refine kG ?_ ‹_› (by first | omega | simp <;> omega)) | exact ⟨by with_reducible rfl⟩ | exact ⟨by simp⟩)
          have Z_2 : Bk w2 (w.heap.size + 1 + 1) 68 #[.int .i64 0, .int .i64 0, .bool false] := by (repeat first | (with_reducible first | assumption | exact kN _ _ _ (by simp) | refine kA ?_ _ | refine kD ?_ | refine kW ?_ _ | apply Bk.set' | refine kF ?_ (by simp <;> omega) _ | refine kL ?_ ‹_› | refine kG ?_ ‹_› (by first | omega | simp <;> omega)) | exact ⟨by with_reducible rfl⟩ | exact ⟨by simp⟩)
          have X_2 : Bk w2 (w.heap.size + 1 + 1 + 1) 68 #[.int .i64 0, .int .i64 1, .bool false] := by (repeat first | (with_reducible first | assumption | exact kN _ _ _ (by simp) | refine kA ?_ _ | refine kD ?_ | refine kW ?_ _ | apply Bk.set' | refine kF ?_ (by simp <;> omega) _ | refine kL ?_ ‹_› | refine kG ?_ ‹_› (by first | omega | simp <;> omega)) | exact ⟨by with_reducible rfl⟩ | exact ⟨by simp⟩)
          have hgr2 : w.grownBy w2 (some R) := by (with_reducible repeat first | assumption | exact grownBy_refl _ _ | refine gr_alloc ?_ _ | refine gr_set (by first | omega | simp <;> omega) ?_ _ | refine gr_drew ?_ | refine gr_drewN ?_ _ | refine gr_after ?_ ‹_› | refine gr_below ?_ ‹_›)
          have hsz2 := hgr2.size
          clear hg2
          have hRl2 := hR2.lt
          clear L_1 L1q0 L1q1 L1q2 L1q3 L1q4 L1q5 L1q6 L1q7 L1q8 L1q9 L1q10 L1qf B_1 B1q0 B1q1 B1q2 B1qf Z_1 Z1q0 Z1q1 Z1q2 Z1qf X_1 X1q0 X1q1 X1q2 X1qf hgr1 hR1
          have Lz2 := L_2.lt
          obtain ⟨⟨L2q0, L2q1, L2q2, L2q3, L2q4, L2q5, L2q6, L2q7, L2q8, L2q9, L2q10⟩, L2qf⟩ := L_2.c11
          have Bz2 := B_2.lt
          obtain ⟨⟨B2q0, B2q1, B2q2⟩, B2qf⟩ := B_2.c3
          have Zz2 := Z_2.lt
          obtain ⟨⟨Z2q0, Z2q1, Z2q2⟩, Z2qf⟩ := Z_2.c3
          have Xz2 := X_2.lt
          obtain ⟨⟨X2q0, X2q1, X2q2⟩, X2qf⟩ := X_2.c3
          go_wp2_with fail
          refine (specInputOf_any x3 _).mono ?_
          rintro e w3 ⟨rfl, hb3⟩
          have L_3 : Bk w3 (w.heap.size) 87 #[.int .i64 l.id, .int .i64 l.ticks, .int .i64 l.start.x, .int .i64 l.start.y, .slice A l.walls.length c, .slice A' l.gates.length c', .int .i64 l.fin.lo.x, .int .i64 l.fin.lo.y, .int .i64 l.fin.hi.x, .int .i64 l.fin.hi.y, .int .i64 l.bans] := by (repeat first | (with_reducible first | assumption | exact kN _ _ _ (by simp) | refine kA ?_ _ | refine kD ?_ | refine kW ?_ _ | apply Bk.set' | refine kF ?_ (by simp <;> omega) _ | refine kL ?_ ‹_› | refine kG ?_ ‹_› (by first | omega | simp <;> omega)) | exact ⟨by with_reducible rfl⟩ | exact ⟨by simp⟩)
          have B_3 : Bk w3 (w.heap.size + 1) 68 #[.int .i64 b.s, .int .i64 b.p, .bool b.z] := by (repeat first | (with_reducible first | assumption | exact kN _ _ _ (by simp) | refine kA ?_ _ | refine kD ?_ | refine kW ?_ _ | apply Bk.set' | refine kF ?_ (by simp <;> omega) _ | refine kL ?_ ‹_› | refine kG ?_ ‹_› (by first | omega | simp <;> omega)) | exact ⟨by with_reducible rfl⟩ | exact ⟨by simp⟩)
          have Z_3 : Bk w3 (w.heap.size + 1 + 1) 68 #[.int .i64 0, .int .i64 0, .bool false] := by (repeat first | (with_reducible first | assumption | exact kN _ _ _ (by simp) | refine kA ?_ _ | refine kD ?_ | refine kW ?_ _ | apply Bk.set' | refine kF ?_ (by simp <;> omega) _ | refine kL ?_ ‹_› | refine kG ?_ ‹_› (by first | omega | simp <;> omega)) | exact ⟨by with_reducible rfl⟩ | exact ⟨by simp⟩)
          have X_3 : Bk w3 (w.heap.size + 1 + 1 + 1) 68 #[.int .i64 0, .int .i64 1, .bool false] := by (repeat first | (with_reducible first | assumption | exact kN _ _ _ (by simp) | refine kA ?_ _ | refine kD ?_ | refine kW ?_ _ | apply Bk.set' | refine kF ?_ (by simp <;> omega) _ | refine kL ?_ ‹_› | refine kG ?_ ‹_› (by first | omega | simp <;> omega)) | exact ⟨by with_reducible rfl⟩ | exact ⟨by simp⟩)
          have hgr3 : w.grownBy w3 (some R) := by (with_reducible repeat first | assumption | exact grownBy_refl _ _ | refine gr_alloc ?_ _ | refine gr_set (by first | omega | simp <;> omega) ?_ _ | refine gr_drew ?_ | refine gr_drewN ?_ _ | refine gr_after ?_ ‹_› | refine gr_below ?_ ‹_›)
          have hsz3 := hgr3.size
          have hR3 : RdL w3 R (n + 2) := by (with_reducible repeat first | assumption | refine RdL.alloc ?_ _ | refine RdL.drew ?_ | refine RdL.drewN ?_ _ | refine RdL.far ?_ (by first | omega | simp <;> omega) _ | refine RdL.later ?_ ‹_›)
          clear hb3
          have hRl3 := hR3.lt
          clear L_2 L2q0 L2q1 L2q2 L2q3 L2q4 L2q5 L2q6 L2q7 L2q8 L2q9 L2q10 L2qf B_2 B2q0 B2q1 B2q2 B2qf Z_2 Z2q0 Z2q1 Z2q2 Z2qf X_2 X2q0 X2q1 X2q2 X2qf hgr2 hR2
          have Lz3 := L_3.lt
          obtain ⟨⟨L3q0, L3q1, L3q2, L3q3, L3q4, L3q5, L3q6, L3q7, L3q8, L3q9, L3q10⟩, L3qf⟩ := L_3.c11
          have Bz3 := B_3.lt
          obtain ⟨⟨B3q0, B3q1, B3q2⟩, B3qf⟩ := B_3.c3
          have Zz3 := Z_3.lt
          obtain ⟨⟨Z3q0, Z3q1, Z3q2⟩, Z3qf⟩ := Z_3.c3
          have Xz3 := X_3.lt
          obtain ⟨⟨X3q0, X3q1, X3q2⟩, X3qf⟩ := X_3.c3
          generalize inpOf x3 = xi at *
          obtain ⟨xs, xp, xz⟩ := xi
          go_wp2_with fail
          refine (l12Follows_any l b ⟨xs, xp, xz⟩ _ _ _ _ _ h0 h1 hb).mono ?_
          rintro e w4 ⟨rfl, hb4⟩
          have L_4 : Bk w4 (w.heap.size) 87 #[.int .i64 l.id, .int .i64 l.ticks, .int .i64 l.start.x, .int .i64 l.start.y, .slice A l.walls.length c, .slice A' l.gates.length c', .int .i64 l.fin.lo.x, .int .i64 l.fin.lo.y, .int .i64 l.fin.hi.x, .int .i64 l.fin.hi.y, .int .i64 l.bans] := by (repeat first | (with_reducible first | assumption | exact kN _ _ _ (by simp) | refine kA ?_ _ | refine kD ?_ | refine kW ?_ _ | apply Bk.set' | refine kF ?_ (by simp <;> omega) _ | refine kL ?_ ‹_› | refine kG ?_ ‹_› (by first | omega | simp <;> omega)) | exact ⟨by with_reducible rfl⟩ | exact ⟨by simp⟩)
          have B_4 : Bk w4 (w.heap.size + 1) 68 #[.int .i64 b.s, .int .i64 b.p, .bool b.z] := by (repeat first | (with_reducible first | assumption | exact kN _ _ _ (by simp) | refine kA ?_ _ | refine kD ?_ | refine kW ?_ _ | apply Bk.set' | refine kF ?_ (by simp <;> omega) _ | refine kL ?_ ‹_› | refine kG ?_ ‹_› (by first | omega | simp <;> omega)) | exact ⟨by with_reducible rfl⟩ | exact ⟨by simp⟩)
          have Z_4 : Bk w4 (w.heap.size + 1 + 1) 68 #[.int .i64 0, .int .i64 0, .bool false] := by (repeat first | (with_reducible first | assumption | exact kN _ _ _ (by simp) | refine kA ?_ _ | refine kD ?_ | refine kW ?_ _ | apply Bk.set' | refine kF ?_ (by simp <;> omega) _ | refine kL ?_ ‹_› | refine kG ?_ ‹_› (by first | omega | simp <;> omega)) | exact ⟨by with_reducible rfl⟩ | exact ⟨by simp⟩)
          have X_4 : Bk w4 (w.heap.size + 1 + 1 + 1) 68 #[.int .i64 xs, .int .i64 xp, .bool xz] := by (repeat first | (with_reducible first | assumption | exact kN _ _ _ (by simp) | refine kA ?_ _ | refine kD ?_ | refine kW ?_ _ | apply Bk.set' | refine kF ?_ (by simp <;> omega) _ | refine kL ?_ ‹_› | refine kG ?_ ‹_› (by first | omega | simp <;> omega)) | exact ⟨by with_reducible rfl⟩ | exact ⟨by simp⟩)
          have hgr4 : w.grownBy w4 (some R) := by (with_reducible repeat first | assumption | exact grownBy_refl _ _ | refine gr_alloc ?_ _ | refine gr_set (by first | omega | simp <;> omega) ?_ _ | refine gr_drew ?_ | refine gr_drewN ?_ _ | refine gr_after ?_ ‹_› | refine gr_below ?_ ‹_›)
          have hsz4 := hgr4.size
          have hR4 : RdL w4 R (n + 2) := by (with_reducible repeat first | assumption | refine RdL.alloc ?_ _ | refine RdL.drew ?_ | refine RdL.drewN ?_ _ | refine RdL.far ?_ (by first | omega | simp <;> omega) _ | refine RdL.later ?_ ‹_›)
          clear hb4
          have hRl4 := hR4.lt
          clear L_3 L3q0 L3q1 L3q2 L3q3 L3q4 L3q5 L3q6 L3q7 L3q8 L3q9 L3q10 L3qf B_3 B3q0 B3q1 B3q2 B3qf Z_3 Z3q0 Z3q1 Z3q2 Z3qf X_3 X3q0 X3q1 X3q2 X3qf hgr3 hR3
          have Lz4 := L_4.lt
          obtain ⟨⟨L4q0, L4q1, L4q2, L4q3, L4q4, L4q5, L4q6, L4q7, L4q8, L4q9, L4q10⟩, L4qf⟩ := L_4.c11
          have Bz4 := B_4.lt
          obtain ⟨⟨B4q0, B4q1, B4q2⟩, B4qf⟩ := B_4.c3
          have Zz4 := Z_4.lt
          obtain ⟨⟨Z4q0, Z4q1, Z4q2⟩, Z4qf⟩ := Z_4.c3
          have Xz4 := X_4.lt
          obtain ⟨⟨X4q0, X4q1, X4q2⟩, X4qf⟩ := X_4.c3
          cases hF : folB l b.s ⟨xs, xp, xz⟩
          · go_wp2
            exact bodyPost_ret (v := .agg #[.int .i64 0, .int .i64 1, .bool false]) (by simp [results, Tryd.results97, go_sem, *]) rfl ⟨⟨0, 1, false⟩, rfl, by decide, (show RdL _ R (n + 2) by (with_reducible repeat first | assumption | refine RdL.alloc ?_ _ | refine RdL.drew ?_ | refine RdL.drewN ?_ _ | refine RdL.far ?_ (by first | omega | simp <;> omega) _ | refine RdL.later ?_ ‹_›)).more (by omega), by (with_reducible repeat first | assumption | exact grownBy_refl _ _ | refine gr_alloc ?_ _ | refine gr_set (by first | omega | simp <;> omega) ?_ _ | refine gr_drew ?_ | refine gr_drewN ?_ _ | refine gr_after ?_ ‹_› | refine gr_below ?_ ‹_›)⟩
          · have hOk := Lib.hid (folB_inp hF)
            go_wp2
            exact bodyPost_ret (v := .agg #[.int .i64 xs, .int .i64 xp, .bool xz]) (by simp [results, Tryd.results97, go_sem, *]) rfl ⟨⟨xs, xp, xz⟩, rfl, hOk.out, (show RdL _ R (n + 2) by (with_reducible repeat first | assumption | refine RdL.alloc ?_ _ | refine RdL.drew ?_ | refine RdL.drewN ?_ _ | refine RdL.far ?_ (by first | omega | simp <;> omega) _ | refine RdL.later ?_ ‹_›)).more (by omega), by (with_reducible repeat first | assumption | exact grownBy_refl _ _ | refine gr_alloc ?_ _ | refine gr_set (by first | omega | simp <;> omega) ?_ _ | refine gr_drew ?_ | refine gr_drewN ?_ _ | refine gr_after ?_ ‹_› | refine gr_below ?_ ‹_›)⟩
        · have hxb3 : (x2 == 3) = false := by simpa using hx3
          go_wp2_with fail
          refine (l12Follows_any l b ⟨0, 1, false⟩ _ _ _ _ _ h0 h1 hb).mono ?_
          rintro e w2 ⟨rfl, hb2⟩
          have L_2 : Bk w2 (w.heap.size) 87 #[.int .i64 l.id, .int .i64 l.ticks, .int .i64 l.start.x, .int .i64 l.start.y, .slice A l.walls.length c, .slice A' l.gates.length c', .int .i64 l.fin.lo.x, .int .i64 l.fin.lo.y, .int .i64 l.fin.hi.x, .int .i64 l.fin.hi.y, .int .i64 l.bans] := by (repeat first | (with_reducible first | assumption | exact kN _ _ _ (by simp) | refine kA ?_ _ | refine kD ?_ | refine kW ?_ _ | apply Bk.set' | refine kF ?_ (by simp <;> omega) _ | refine kL ?_ ‹_› | refine kG ?_ ‹_› (by first | omega | simp <;> omega)) | exact ⟨by with_reducible rfl⟩ | exact ⟨by simp⟩)
          have B_2 : Bk w2 (w.heap.size + 1) 68 #[.int .i64 b.s, .int .i64 b.p, .bool b.z] := by (repeat first | (with_reducible first | assumption | exact kN _ _ _ (by simp) | refine kA ?_ _ | refine kD ?_ | refine kW ?_ _ | apply Bk.set' | refine kF ?_ (by simp <;> omega) _ | refine kL ?_ ‹_› | refine kG ?_ ‹_› (by first | omega | simp <;> omega)) | exact ⟨by with_reducible rfl⟩ | exact ⟨by simp⟩)
          have Z_2 : Bk w2 (w.heap.size + 1 + 1) 68 #[.int .i64 0, .int .i64 0, .bool false] := by (repeat first | (with_reducible first | assumption | exact kN _ _ _ (by simp) | refine kA ?_ _ | refine kD ?_ | refine kW ?_ _ | apply Bk.set' | refine kF ?_ (by simp <;> omega) _ | refine kL ?_ ‹_› | refine kG ?_ ‹_› (by first | omega | simp <;> omega)) | exact ⟨by with_reducible rfl⟩ | exact ⟨by simp⟩)
          have X_2 : Bk w2 (w.heap.size + 1 + 1 + 1) 68 #[.int .i64 0, .int .i64 1, .bool false] := by (repeat first | (with_reducible first | assumption | exact kN _ _ _ (by simp) | refine kA ?_ _ | refine kD ?_ | refine kW ?_ _ | apply Bk.set' | refine kF ?_ (by simp <;> omega) _ | refine kL ?_ ‹_› | refine kG ?_ ‹_› (by first | omega | simp <;> omega)) | exact ⟨by with_reducible rfl⟩ | exact ⟨by simp⟩)
          have hgr2 : w.grownBy w2 (some R) := by (with_reducible repeat first | assumption | exact grownBy_refl _ _ | refine gr_alloc ?_ _ | refine gr_set (by first | omega | simp <;> omega) ?_ _ | refine gr_drew ?_ | refine gr_drewN ?_ _ | refine gr_after ?_ ‹_› | refine gr_below ?_ ‹_›)
          have hsz2 := hgr2.size
          have hR2 : RdL w2 R (n + 1) := by (with_reducible repeat first | assumption | refine RdL.alloc ?_ _ | refine RdL.drew ?_ | refine RdL.drewN ?_ _ | refine RdL.far ?_ (by first | omega | simp <;> omega) _ | refine RdL.later ?_ ‹_›)
          clear hb2
          have hRl2 := hR2.lt
          clear L_1 L1q0 L1q1 L1q2 L1q3 L1q4 L1q5 L1q6 L1q7 L1q8 L1q9 L1q10 L1qf B_1 B1q0 B1q1 B1q2 B1qf Z_1 Z1q0 Z1q1 Z1q2 Z1qf X_1 X1q0 X1q1 X1q2 X1qf hgr1 hR1
          have Lz2 := L_2.lt
          obtain ⟨⟨L2q0, L2q1, L2q2, L2q3, L2q4, L2q5, L2q6, L2q7, L2q8, L2q9, L2q10⟩, L2qf⟩ := L_2.c11
          have Bz2 := B_2.lt
          obtain ⟨⟨B2q0, B2q1, B2q2⟩, B2qf⟩ := B_2.c3
          have Zz2 := Z_2.lt
          obtain ⟨⟨Z2q0, Z2q1, Z2q2⟩, Z2qf⟩ := Z_2.c3
          have Xz2 := X_2.lt
          obtain ⟨⟨X2q0, X2q1, X2q2⟩, X2qf⟩ := X_2.c3
          cases hF : folB l b.s ⟨0, 1, false⟩
          · go_wp2
            exact bodyPost_ret (v := .agg #[.int .i64 0, .int .i64 1, .bool false]) (by simp [results, Tryd.results97, go_sem, *]) rfl ⟨⟨0, 1, false⟩, rfl, by decide, (show RdL _ R (n + 1) by (with_reducible repeat first | assumption | refine RdL.alloc ?_ _ | refine RdL.drew ?_ | refine RdL.drewN ?_ _ | refine RdL.far ?_ (by first | omega | simp <;> omega) _ | refine RdL.later ?_ ‹_›)).more (by omega), by (with_reducible repeat first | assumption | exact grownBy_refl _ _ | refine gr_alloc ?_ _ | refine gr_set (by first | omega | simp <;> omega) ?_ _ | refine gr_drew ?_ | refine gr_drewN ?_ _ | refine gr_after ?_ ‹_› | refine gr_below ?_ ‹_›)⟩
          · have hOk := Lib.hid (folB_inp hF)
            go_wp2
            exact bodyPost_ret (v := .agg #[.int .i64 0, .int .i64 1, .bool false]) (by simp [results, Tryd.results97, go_sem, *]) rfl ⟨⟨0, 1, false⟩, rfl, hOk.out, (show RdL _ R (n + 1) by (with_reducible repeat first | assumption | refine RdL.alloc ?_ _ | refine RdL.drew ?_ | refine RdL.drewN ?_ _ | refine RdL.far ?_ (by first | omega | simp <;> omega) _ | refine RdL.later ?_ ‹_›)).more (by omega), by (with_reducible repeat first | assumption | exact grownBy_refl _ _ | refine gr_alloc ?_ _ | refine gr_set (by first | omega | simp <;> omega) ?_ _ | refine gr_drew ?_ | refine gr_drewN ?_ _ | refine gr_after ?_ ‹_› | refine gr_below ?_ ‹_›)⟩
end Go.Proofs.YtdpoicfciogfnaaDoor

/- Draws of levels: l91Level. -/
namespace Go.Proofs.YtdpoicfciogfnaaDoor
open Go.ChangeShapes Go.WideShapes Go.ChangeAt Go.RowKit
section
variable {α : Type} {w w' : World} {B : Nat} {T : TypeId} {sz : Nat} {enc : α → List Value} {v : Value} {l : List α}
theorem Own.drew (h : Own w B T sz enc v l) : Own w.drew B T sz enc v l := h
theorem Own.gk {R : Nat} (h : Own w B T sz enc v l) (hg : w.grownBy w' (some R)) (hR : R < B) : Own w' B T sz enc v l :=
  h.keptN hg fun g e e2 => by have := (h.lt g e).1; injection e2 with e2; omega
theorem Own.fars {p : Addr} (h : Own w B T sz enc v l) (hp : ∀ g, v.ownBlock = some g → g ≠ p.block) (u : Value) : Own (w.setCell p u) B T sz enc v l := by
  refine ⟨h.1, ?_⟩
  rcases h.2 with hn | ⟨g, cap, cur, rfl, hB, hgg, rest⟩
  · exact .inl hn
  · exact .inr ⟨g, cap, cur, rfl, hB, (Below.heap_setCell w p u g (hp g rfl)).trans hgg, rest⟩
/-- A narrower claim on where it lies. -/
theorem Own.up (h : Own w B T sz enc v l) {B' : Nat} (hB : ∀ g, v.ownBlock = some g → B' ≤ g) : Own w B' T sz enc v l := by
  refine ⟨h.1, ?_⟩
  rcases h.2 with hn | ⟨g, cap, cur, rfl, hb, rest⟩
  · exact .inl hn
  · exact .inr ⟨g, cap, cur, rfl, hB g rfl, rest⟩
end
theorem one_bxD : ∀ y : Bx, ∀ u ∈ encBx y, u.oneCell' = true := by
  intro y u hu
  simp only [encBx, List.mem_cons, List.not_mem_nil, or_false] at hu
  rcases hu with rfl | rfl | rfl | rfl <;> rfl
theorem Tryd.infoBx : (Tryd.prog.info? 85).map (fun i => (i.zero, i.size, i.bytes)) = some (some (.agg #[.int .i64 0, .int .i64 0, .int .i64 0, .int .i64 0]), 4, 32) := by kernel_rfl
theorem own_nil_bx (w : World) (B N : Nat) (T : TypeId) (hB : B ≤ w.heap.size) (hN : w.heap.size = N) : Own (w.alloc (.cells #[] T)) B T 4 encBx (.slice (some ⟨N, 0, none⟩) 0 0) [] := by
  subst hN
  exact World.ownsRow_lit (base := B) (size := 4) w #[] 0 hB (by decide) rfl
theorem keepV {w : World} {g : Nat} {t : TypeId} {a b : Value} (h : Bk w g t #[a, b]) : w.cell? ⟨g, 0, none⟩ = some a ∧ w.cell? ⟨g, 1, none⟩ = some b := ⟨h.cell 0, h.cell 1⟩
/-- A load that a drawing region is not to take first. -/
def ldOp (T : TypeId) (o : Operand) : Op := Op.load T o
attribute [local go_sem] ldOp
/-- What is known of a drawn level. -/
structure LevD (l : Lev) : Prop where
  G : LevG l
  t0 : 0 ≤ l.ticks
  t1 : l.ticks ≤ 60
  nw : l.walls.length ≤ 4
  ng : l.gates.length ≤ 3
def RetLevD (R n : Nat) (w : World) (e : Ending) (w' : World) : Prop :=
  ∃ l A c A' c', e = .returned (.agg #[.int .i64 l.id, .int .i64 l.ticks, .int .i64 l.start.x, .int .i64 l.start.y, .slice A l.walls.length c, .slice A' l.gates.length c', .int .i64 l.fin.lo.x, .int .i64 l.fin.lo.y, .int .i64 l.fin.hi.x, .int .i64 l.fin.hi.y, .int .i64 l.bans]) ∧ LevD l ∧ Own w' w.heap.size 85 4 encBx (.slice A l.walls.length c) l.walls ∧ Own w' w.heap.size 85 4 encBx (.slice A' l.gates.length c') l.gates ∧ RdL w' R n ∧ w.grownBy w' (some R)
--CUT
set_option maxRecDepth 100000 in
set_option maxHeartbeats 4000000 in
theorem l91Level_any (R n : Nat) (w : World) (h : RdL w R n) (hn : n ≤ 900000) : Calls Tryd.prog 70 #[.pointer (some ⟨R, 0, none⟩)] w (RetLevD R (n + 40) w) := by
  have hRl := h.lt
  obtain ⟨i0, hi, hz0, hz1, hz2⟩ := info_parts Tryd.infoBx
  go_enter Tryd.func70, Tryd.ntmps70
  go_wp2_with fail
  refine (pick_n R n 8 _ (by (with_reducible repeat first | assumption | refine RdL.alloc ?_ _ | refine RdL.drew ?_ | refine RdL.drewN ?_ _ | refine RdL.far ?_ (by first | omega | simp <;> omega) _ | refine RdL.later ?_ ‹_›)) (by omega) (by omega) (by omega)).mono ?_
  rintro e w1 ⟨a1, rfl, a1_0, a1_1, hR1, hg1⟩
  have Z1 : Bk w1 w.heap.size 87 #[.int .i64 0, .int .i64 0, .int .i64 0, .int .i64 0, .slice none 0 0, .slice none 0 0, .int .i64 0, .int .i64 0, .int .i64 0, .int .i64 0, .int .i64 0] := by (repeat first | (with_reducible first | assumption | exact kN _ _ _ (by simp) | refine kA ?_ _ | refine kD ?_ | refine kW ?_ _ | apply Bk.set' | refine kF ?_ (by simp <;> omega) _ | refine kL ?_ ‹_› | refine kG ?_ ‹_› (by first | omega | simp <;> omega)) | exact ⟨by with_reducible rfl⟩ | exact ⟨by simp⟩)
  have hgr1 : w.grownBy w1 (some R) := by (with_reducible repeat first | assumption | exact grownBy_refl _ _ | refine gr_alloc ?_ _ | refine gr_set (by first | omega | simp <;> omega) ?_ _ | refine gr_drew ?_ | refine gr_drewN ?_ _ | refine gr_after ?_ ‹_› | refine gr_below ?_ ‹_›)
  have hRl1 := hR1.lt
  have Zz1 := Z1.lt
  clear hg1
  go_wp2_with fail
  refine (pick_n R (n + 1) 51 _ (by (with_reducible repeat first | assumption | refine RdL.alloc ?_ _ | refine RdL.drew ?_ | refine RdL.drewN ?_ _ | refine RdL.far ?_ (by first | omega | simp <;> omega) _ | refine RdL.later ?_ ‹_›)) (by omega) (by omega) (by omega)).mono ?_
  rintro e w2 ⟨a2, rfl, a2_0, a2_1, hR2, hg2⟩
  have Z2 : Bk w2 w.heap.size 87 #[.int .i64 0, .int .i64 0, .int .i64 0, .int .i64 0, .slice none 0 0, .slice none 0 0, .int .i64 0, .int .i64 0, .int .i64 0, .int .i64 0, .int .i64 0] := by (repeat first | (with_reducible first | assumption | exact kN _ _ _ (by simp) | refine kA ?_ _ | refine kD ?_ | refine kW ?_ _ | apply Bk.set' | refine kF ?_ (by simp <;> omega) _ | refine kL ?_ ‹_› | refine kG ?_ ‹_› (by first | omega | simp <;> omega)) | exact ⟨by with_reducible rfl⟩ | exact ⟨by simp⟩)
  have hgr2 : w.grownBy w2 (some R) := by (with_reducible repeat first | assumption | exact grownBy_refl _ _ | refine gr_alloc ?_ _ | refine gr_set (by first | omega | simp <;> omega) ?_ _ | refine gr_drew ?_ | refine gr_drewN ?_ _ | refine gr_after ?_ ‹_› | refine gr_below ?_ ‹_›)
  have hRl2 := hR2.lt
  have Zz2 := Z2.lt
  clear Z1 hgr1 hR1 hg2 Zz1 hRl1
  go_wp2_with fail
  refine (pick_n R (n + 2) 10 _ (by (with_reducible repeat first | assumption | refine RdL.alloc ?_ _ | refine RdL.drew ?_ | refine RdL.drewN ?_ _ | refine RdL.far ?_ (by first | omega | simp <;> omega) _ | refine RdL.later ?_ ‹_›)) (by omega) (by omega) (by omega)).mono ?_
  rintro e w3 ⟨a3, rfl, a3_0, a3_1, hR3, hg3⟩
  have Z3 : Bk w3 w.heap.size 87 #[.int .i64 0, .int .i64 0, .int .i64 0, .int .i64 0, .slice none 0 0, .slice none 0 0, .int .i64 0, .int .i64 0, .int .i64 0, .int .i64 0, .int .i64 0] := by (repeat first | (with_reducible first | assumption | exact kN _ _ _ (by simp) | refine kA ?_ _ | refine kD ?_ | refine kW ?_ _ | apply Bk.set' | refine kF ?_ (by simp <;> omega) _ | refine kL ?_ ‹_› | refine kG ?_ ‹_› (by first | omega | simp <;> omega)) | exact ⟨by with_reducible rfl⟩ | exact ⟨by simp⟩)
  have hgr3 : w.grownBy w3 (some R) := by (with_reducible repeat first | assumption | exact grownBy_refl _ _ | refine gr_alloc ?_ _ | refine gr_set (by first | omega | simp <;> omega) ?_ _ | refine gr_drew ?_ | refine gr_drewN ?_ _ | refine gr_after ?_ ‹_› | refine gr_below ?_ ‹_›)
  have hRl3 := hR3.lt
  have Zz3 := Z3.lt
  clear Z2 hgr2 hR2 hg3 Zz2 hRl2
  go_wp2_with fail
  refine (pick_n R (n + 3) 10 _ (by (with_reducible repeat first | assumption | refine RdL.alloc ?_ _ | refine RdL.drew ?_ | refine RdL.drewN ?_ _ | refine RdL.far ?_ (by first | omega | simp <;> omega) _ | refine RdL.later ?_ ‹_›)) (by omega) (by omega) (by omega)).mono ?_
  rintro e w4 ⟨a4, rfl, a4_0, a4_1, hR4, hg4⟩
  have Z4 : Bk w4 w.heap.size 87 #[.int .i64 0, .int .i64 0, .int .i64 0, .int .i64 0, .slice none 0 0, .slice none 0 0, .int .i64 0, .int .i64 0, .int .i64 0, .int .i64 0, .int .i64 0] := by (repeat first | (with_reducible first | assumption | exact kN _ _ _ (by simp) | refine kA ?_ _ | refine kD ?_ | refine kW ?_ _ | apply Bk.set' | refine kF ?_ (by simp <;> omega) _ | refine kL ?_ ‹_› | refine kG ?_ ‹_› (by first | omega | simp <;> omega)) | exact ⟨by with_reducible rfl⟩ | exact ⟨by simp⟩)
  have hgr4 : w.grownBy w4 (some R) := by (with_reducible repeat first | assumption | exact grownBy_refl _ _ | refine gr_alloc ?_ _ | refine gr_set (by first | omega | simp <;> omega) ?_ _ | refine gr_drew ?_ | refine gr_drewN ?_ _ | refine gr_after ?_ ‹_› | refine gr_below ?_ ‹_›)
  have hRl4 := hR4.lt
  have Zz4 := Z4.lt
  clear Z3 hgr3 hR3 hg4 Zz3 hRl3
  have hsz4 := hgr4.size
  go_wp2_with fail
  refine (pick_n R (n + 4) 4 _ (by (with_reducible repeat first | assumption | refine RdL.alloc ?_ _ | refine RdL.drew ?_ | refine RdL.drewN ?_ _ | refine RdL.far ?_ (by first | omega | simp <;> omega) _ | refine RdL.later ?_ ‹_›)) (by omega) (by omega) (by omega)).mono ?_
  rintro e w5 ⟨a5, rfl, a5_0, a5_1, hR5, hg5⟩
  have Z5 : Bk w5 w.heap.size 87 #[.int .i64 0, .int .i64 0, .int .i64 0, .int .i64 0, .slice none 0 0, .slice none 0 0, .int .i64 0, .int .i64 0, .int .i64 0, .int .i64 0, .int .i64 0] := by (repeat first | (with_reducible first | assumption | exact kN _ _ _ (by simp) | refine kA ?_ _ | refine kD ?_ | refine kW ?_ _ | apply Bk.set' | refine kF ?_ (by simp <;> omega) _ | refine kL ?_ ‹_› | refine kG ?_ ‹_› (by first | omega | simp <;> omega)) | exact ⟨by with_reducible rfl⟩ | exact ⟨by simp⟩)
  have hgr5 : w.grownBy w5 (some R) := by (with_reducible repeat first | assumption | exact grownBy_refl _ _ | refine gr_alloc ?_ _ | refine gr_set (by first | omega | simp <;> omega) ?_ _ | refine gr_drew ?_ | refine gr_drewN ?_ _ | refine gr_after ?_ ‹_› | refine gr_below ?_ ‹_›)
  have W5 : Own w5 (w.heap.size + 1) 85 4 encBx (.slice (some ⟨w4.heap.size, 0, none⟩) 0 0) [] := ((own_nil_bx w4 _ _ 85 (by omega) rfl).alloc _).gk hg5 (by omega)
  have G5 : Own w5 (w.heap.size + 1) 85 4 encBx (.slice (some ⟨w4.heap.size + 1, 0, none⟩) 0 0) [] := (own_nil_bx (w4.alloc (.cells #[] 85)) _ _ 85 (by simp; omega) (by simp)).gk hg5 (by omega)
  have hsz5 : w4.heap.size + 2 ≤ w5.heap.size := by have := hg5.size; simp at this; omega
  have Zz5 := Z5.lt
  have hRl5 := hR5.lt
  clear Z4 hgr4 hR4 hg5
  go_wp2_with fail
  refine (pick_n R (n + 5) 3 _ (by (with_reducible repeat first | assumption | refine RdL.alloc ?_ _ | refine RdL.drew ?_ | refine RdL.drewN ?_ _ | refine RdL.far ?_ (by first | omega | simp <;> omega) _ | refine RdL.later ?_ ‹_›)) (by omega) (by omega) (by omega)).mono ?_
  rintro e w6 ⟨a6, rfl, a6_0, a6_1, hR6, hg6⟩
  generalize hm1 : w4.heap.size = m1 at *
  generalize hmm : w5.heap.size = M at *
  have Z6 : Bk w6 w.heap.size 87 #[.int .i64 0, .int .i64 0, .int .i64 0, .int .i64 0, .slice none 0 0, .slice none 0 0, .int .i64 0, .int .i64 0, .int .i64 0, .int .i64 0, .int .i64 0] := by (repeat first | (with_reducible first | assumption | exact kN _ _ _ (by simp) | refine kA ?_ _ | refine kD ?_ | refine kW ?_ _ | apply Bk.set' | refine kF ?_ (by simp <;> omega) _ | refine kL ?_ ‹_› | refine kG ?_ ‹_› (by first | omega | simp <;> omega)) | exact ⟨by with_reducible rfl⟩ | exact ⟨by simp⟩)
  have L6 : Bk w6 M 87 #[.int .i64 a1, .int .i64 (10 + a2), .int .i64 (a3 * 100), .int .i64 (a4 * 100 - 500), .slice (some ⟨m1, 0, none⟩) 0 0, .slice (some ⟨m1 + 1, 0, none⟩) 0 0, .int .i64 0, .int .i64 0, .int .i64 0, .int .i64 0, .int .i64 a5] := (Bk.new w5 _ _ hmm).grown hg6 (by intro e; injection e; omega)
  have W6 : Own w6 (w.heap.size + 1) 85 4 encBx (.slice (some ⟨m1, 0, none⟩) 0 0) [] := by (with_reducible repeat first | assumption | refine Own.fars ?_ ‹_› _ | refine Own.alloc ?_ _ | refine Own.drew ?_ | refine Own.drewN ?_ _ | refine Own.set (by first | omega | simp <;> omega) ?_ _ | refine Own.later ?_ ‹_› | refine Own.gk ?_ ‹_› (by omega))
  have G6 : Own w6 (w.heap.size + 1) 85 4 encBx (.slice (some ⟨m1 + 1, 0, none⟩) 0 0) [] := by (with_reducible repeat first | assumption | refine Own.fars ?_ ‹_› _ | refine Own.alloc ?_ _ | refine Own.drew ?_ | refine Own.drewN ?_ _ | refine Own.set (by first | omega | simp <;> omega) ?_ _ | refine Own.later ?_ ‹_› | refine Own.gk ?_ ‹_› (by omega))
  have hgr6 : w.grownBy w6 (some R) := by (with_reducible repeat first | assumption | exact grownBy_refl _ _ | refine gr_alloc ?_ _ | refine gr_set (by first | omega | simp <;> omega) ?_ _ | refine gr_drew ?_ | refine gr_drewN ?_ _ | refine gr_after ?_ ‹_› | refine gr_below ?_ ‹_›)
  have hsz6 := hg6.size
  clear Z5 hgr5 hR5 hg6 W5 G5
  obtain ⟨K1, rfl⟩ := Int.eq_ofNat_of_zero_le a6_0
  go_wp2
  go_loopw [4, 6] (fun x i wr => ∃ (k : Nat) (xx : Int) (gs : List Bx) (gv : Value), k ≤ K1 ∧ i = .int .i64 k ∧ x = .int .i64 xx ∧ 0 ≤ xx ∧ xx ≤ 1000 + 3000 * k ∧ gs.length = k ∧ Own wr (w.heap.size + 1) 85 4 encBx gv gs ∧ (∀ g, gv.ownBlock = some g → g ≠ M ∧ g ≠ m1) ∧ Own wr (w.heap.size + 1) 85 4 encBx (.slice (some ⟨m1, 0, none⟩) 0 0) [] ∧ Bk wr w.heap.size 87 #[.int .i64 0, .int .i64 0, .int .i64 0, .int .i64 0, .slice none 0 0, .slice none 0 0, .int .i64 0, .int .i64 0, .int .i64 0, .int .i64 0, .int .i64 0] ∧ Bk wr M 87 #[.int .i64 a1, .int .i64 (10 + a2), .int .i64 (a3 * 100), .int .i64 (a4 * 100 - 500), .slice (some ⟨m1, 0, none⟩) 0 0, gv, .int .i64 0, .int .i64 0, .int .i64 0, .int .i64 0, .int .i64 a5] ∧ RdL wr R (n + 6 + 2 * k) ∧ w.grownBy wr (some R)) (fun _ i _ => K1 - (intOf i).toNat)
  case atStart => exact ⟨0, _, [], _, Nat.zero_le _, rfl, rfl, by omega, by omega, rfl, G6, fun g e => by simp only [Value.ownBlock, Option.some.injEq] at e; omega, W6, Z6, L6, hR6, hgr6⟩
  case round =>
    obtain ⟨k, xx, gs, gv, hk, rfl, rfl, hx0, hx1, hgl, hG, hGne, hW, hZ, hL, hR, hgr⟩ := hrel
    clear G6 W6 Z6 L6 hR6 hgr6
    have zZ := hZ.lt; have zL := hL.lt; have hRl7 := hR.lt; have hsz7 := hgr.size
    by_cases hlt : k < K1
    · obtain ⟨Ag, cg, rfl, hcg, _⟩ := hG.form
      have hgb := fun g e => (hG.lt g e).1
      have hgs : gs.length ≤ 2 := by omega
      have Hgl := Lib.hid hgl; clear hgl
      go_wp2_with fail
      refine (pick_n R (n + 6 + 2 * k) 20 _ (by (with_reducible repeat first | assumption | refine RdL.alloc ?_ _ | refine RdL.drew ?_ | refine RdL.drewN ?_ _ | refine RdL.far ?_ (by first | omega | simp <;> omega) _ | refine RdL.later ?_ ‹_›)) (by omega) (by omega) (by omega)).mono ?_
      rintro e w7 ⟨b1, rfl, b1_0, b1_1, hR7, hg7⟩
      have Z7 : Bk w7 w.heap.size 87 #[.int .i64 0, .int .i64 0, .int .i64 0, .int .i64 0, .slice none 0 0, .slice none 0 0, .int .i64 0, .int .i64 0, .int .i64 0, .int .i64 0, .int .i64 0] := by (repeat first | (with_reducible first | assumption | exact kN _ _ _ (by simp) | refine kA ?_ _ | refine kD ?_ | refine kW ?_ _ | apply Bk.set' | refine kF ?_ (by simp <;> omega) _ | refine kL ?_ ‹_› | refine kG ?_ ‹_› (by first | omega | simp <;> omega)) | exact ⟨by with_reducible rfl⟩ | exact ⟨by simp⟩)
      have L7 : Bk w7 M 87 #[.int .i64 a1, .int .i64 (10 + a2), .int .i64 (a3 * 100), .int .i64 (a4 * 100 - 500), .slice (some ⟨m1, 0, none⟩) 0 0, .slice Ag gs.length cg, .int .i64 0, .int .i64 0, .int .i64 0, .int .i64 0, .int .i64 a5] := by (repeat first | (with_reducible first | assumption | exact kN _ _ _ (by simp) | refine kA ?_ _ | refine kD ?_ | refine kW ?_ _ | apply Bk.set' | refine kF ?_ (by simp <;> omega) _ | refine kL ?_ ‹_› | refine kG ?_ ‹_› (by first | omega | simp <;> omega)) | exact ⟨by with_reducible rfl⟩ | exact ⟨by simp⟩)
      have W7 : Own w7 (w.heap.size + 1) 85 4 encBx (.slice (some ⟨m1, 0, none⟩) 0 0) [] := by (with_reducible repeat first | assumption | refine Own.fars ?_ ‹_› _ | refine Own.alloc ?_ _ | refine Own.drew ?_ | refine Own.drewN ?_ _ | refine Own.set (by first | omega | simp <;> omega) ?_ _ | refine Own.later ?_ ‹_› | refine Own.gk ?_ ‹_› (by omega))
      have G7 : Own w7 (w.heap.size + 1) 85 4 encBx (.slice Ag gs.length cg) gs := by (with_reducible repeat first | assumption | refine Own.fars ?_ ‹_› _ | refine Own.alloc ?_ _ | refine Own.drew ?_ | refine Own.drewN ?_ _ | refine Own.set (by first | omega | simp <;> omega) ?_ _ | refine Own.later ?_ ‹_› | refine Own.gk ?_ ‹_› (by omega))
      have hgr7 : w.grownBy w7 (some R) := by (with_reducible repeat first | assumption | exact grownBy_refl _ _ | refine gr_alloc ?_ _ | refine gr_set (by first | omega | simp <;> omega) ?_ _ | refine gr_drew ?_ | refine gr_drewN ?_ _ | refine gr_after ?_ ‹_› | refine gr_below ?_ ‹_›)
      have hsz7 := hgr7.size
      have Zz7 := Z7.lt; have Lz7 := L7.lt; have hRl7 := hR7.lt
      obtain ⟨⟨l0, l1, l2, l3, l4, l5, l6, l7, l8, l9, l10⟩, lf⟩ := L7.c11
      clear hZ hL hW hG hR hgr hg7
      have e1 : IntKind.i64.wrap (xx + 200 + b1 * 100 + 1500) = xx + 200 + b1 * 100 + 1500 := IntWalk.i64_in _ (by omega)
      go_wp2
      go_region_law (first
        | (go_simp; go_at_call 72; refine (pick_n R (n + 6 + 2 * k + 1) 20 _ (by (with_reducible repeat first | assumption | refine RdL.alloc ?_ _ | refine RdL.drew ?_ | refine RdL.drewN ?_ _ | refine RdL.far ?_ (by first | omega | simp <;> omega) _ | refine RdL.later ?_ ‹_›)) (by omega) (by omega) (by omega)).mono ?_; rintro e w8 ⟨b2, rfl, b2_0, b2_1, hR8, hg8⟩; have e2 : IntKind.i64.wrap (b2 * 100) = b2 * 100 := IntWalk.i64_in _ (by omega); have e3 : IntKind.i64.wrap (xx + 200 + b1 * 100 + 1500 + b2 * 100) = xx + 200 + b1 * 100 + 1500 + b2 * 100 := IntWalk.i64_in _ (by omega); have G8 : Own w8 (w.heap.size + 1) 85 4 encBx (.slice Ag gs.length cg) gs := (by (with_reducible repeat first | assumption | refine Own.fars ?_ ‹_› _ | refine Own.alloc ?_ _ | refine Own.drew ?_ | refine Own.drewN ?_ _ | refine Own.set (by first | omega | simp <;> omega) ?_ _ | refine Own.later ?_ ‹_› | refine Own.gk ?_ ‹_› (by omega))); have L8 : Bk w8 M 87 #[.int .i64 a1, .int .i64 (10 + a2), .int .i64 (a3 * 100), .int .i64 (a4 * 100 - 500), .slice (some ⟨m1, 0, none⟩) 0 0, .slice Ag gs.length cg, .int .i64 0, .int .i64 0, .int .i64 0, .int .i64 0, .int .i64 a5] := (by (repeat first | (with_reducible first | assumption | exact kN _ _ _ (by simp) | refine kA ?_ _ | refine kD ?_ | refine kW ?_ _ | apply Bk.set' | refine kF ?_ (by simp <;> omega) _ | refine kL ?_ ‹_› | refine kG ?_ ‹_› (by first | omega | simp <;> omega)) | exact ⟨by with_reducible rfl⟩ | exact ⟨by simp⟩)); have hRl8 := hR8.lt; have hs8 := hg8.size; have Lz8 := L8.lt; (try simp only [World.drew_heap] at hs8); obtain ⟨⟨x0, x1, x2, x3, x4, x5, x6, x7, x8, x9, x10⟩, xf⟩ := L8.c11)
        | (refine step_appL rfl (.tmp 44) (.tmp 55) _ rfl (w.heap.size + 1) 85 i0 (.agg #[.int .i64 0, .int .i64 0, .int .i64 0, .int .i64 0]) 4 32 Tryd.underlying83 hi hz0 hz1 hz2 rfl (by decide) encBx_len one_bxD _ gs [⟨⟨xx + 200 + b1 * 100, -3000⟩, ⟨xx + 200 + b1 * 100 + 1500 + b2 * 100, 3000⟩⟩] (by simp [Act.eval]) (G8.alloc _) _ 1 1 (by simp [Act.eval]) (Sl.one _ _ _ _ rfl) (by intro e; cases e) (by unfold maxLen; omega) (by omega) (by simp; omega) ?_; intro v9 w9 G9 hg9 hl9; obtain ⟨A9, c9, hv9, hc9, _⟩ := G9.form; rw [List.length_append, List.length_singleton] at hv9; subst hv9; have L9 := (L8.alloc (.cells #[.int .i64 (xx + 200 + b1 * 100), .int .i64 (-3000), .int .i64 (xx + 200 + b1 * 100 + 1500 + b2 * 100), .int .i64 3000] 85)).grown hg9 (by intro e; exact (hGne _ e.symm).1 rfl); obtain ⟨⟨y0, y1, y2, y3, y4, y5, y6, y7, y8, y9, y10⟩, yf⟩ := L9.c11))
      all_goals
        have hs8 := hg8.size
        have hb9 : ∀ g, (Value.slice A9 (gs.length + 1) c9).ownBlock = some g → g ≠ M ∧ g ≠ m1 := by
          intro g e
          rcases hl9 with q | q
          · exact hGne g (q ▸ e)
          · rw [q] at e; simp at e hs8; omega
        have W8 : Own w8 (w.heap.size + 1) 85 4 encBx (.slice (some ⟨m1, 0, none⟩) 0 0) [] := by (with_reducible repeat first | assumption | refine Own.fars ?_ ‹_› _ | refine Own.alloc ?_ _ | refine Own.drew ?_ | refine Own.drewN ?_ _ | refine Own.set (by first | omega | simp <;> omega) ?_ _ | refine Own.later ?_ ‹_› | refine Own.gk ?_ ‹_› (by omega))
        have W9 := (W8.alloc (.cells #[.int .i64 (xx + 200 + b1 * 100), .int .i64 (-3000), .int .i64 (xx + 200 + b1 * 100 + 1500 + b2 * 100), .int .i64 3000] 85)).keptN hg9 (by intro g e e2; simp only [Value.ownBlock, Option.some.injEq] at e; exact (hGne g e2).2 e.symm)
        have Z8 : Bk w8 w.heap.size 87 #[.int .i64 0, .int .i64 0, .int .i64 0, .int .i64 0, .slice none 0 0, .slice none 0 0, .int .i64 0, .int .i64 0, .int .i64 0, .int .i64 0, .int .i64 0] := by (repeat first | (with_reducible first | assumption | exact kN _ _ _ (by simp) | refine kA ?_ _ | refine kD ?_ | refine kW ?_ _ | apply Bk.set' | refine kF ?_ (by simp <;> omega) _ | refine kL ?_ ‹_› | refine kG ?_ ‹_› (by first | omega | simp <;> omega)) | exact ⟨by with_reducible rfl⟩ | exact ⟨by simp⟩)
        have Z9 := (Z8.alloc (.cells #[.int .i64 (xx + 200 + b1 * 100), .int .i64 (-3000), .int .i64 (xx + 200 + b1 * 100 + 1500 + b2 * 100), .int .i64 3000] 85)).grown hg9 (by intro e; have := hgb _ e.symm; omega)
        have hgr8 : w.grownBy w8 (some R) := by (with_reducible repeat first | assumption | exact grownBy_refl _ _ | refine gr_alloc ?_ _ | refine gr_set (by first | omega | simp <;> omega) ?_ _ | refine gr_drew ?_ | refine gr_drewN ?_ _ | refine gr_after ?_ ‹_› | refine gr_below ?_ ‹_›)
        have hgr9 := gr_own (gr_alloc hgr8 _) hg9 (fun g e => by have := hgb g e; omega)
        have hR9 := (hR8.alloc (.cells #[.int .i64 (xx + 200 + b1 * 100), .int .i64 (-3000), .int .i64 (xx + 200 + b1 * 100 + 1500 + b2 * 100), .int .i64 3000] 85)).own hg9 (fun g e => by have := hgb g e; omega)
        clear W8 Z8 hgr8 hR8 G8 L8 hg8 hg9 hl9 L7 Z7 W7 G7 hgr7
        go_wp2
        case roundEnd =>
          go_roundw
          case rel => exact ⟨k + 1, _, _, _, by omega, by go_num, rfl, by omega, by omega, by rw [List.length_append, Hgl.out]; rfl, G9.fars (fun g e => (hb9 g e).1) _, hb9, W9.fars (fun g e => by simp only [Value.ownBlock, Option.some.injEq] at e; show g ≠ M; omega) _, Z9.far (by simp; omega) _, L9.set' (SetTo.mk (by simp)), (hR9.far (by simp; omega) _).more (by omega), gr_set (by simp; omega) hgr9 _⟩
          case measure => simp [intOf]; omega
    · obtain ⟨Ag, cg, rfl, hcg, _⟩ := hG.form
      have hgb := fun g e => (hG.lt g e).1
      have hgs : gs.length ≤ 2 := by omega
      clear hgl
      have hWM : ∀ g, (Value.slice (some ⟨m1, 0, none⟩) 0 0).ownBlock = some g → g ≠ M := fun g e => by simp only [Value.ownBlock, Option.some.injEq] at e; omega
      have hGM : ∀ g, (Value.slice Ag gs.length cg).ownBlock = some g → g ≠ M := fun g e => (hGne g e).1
      replace hR := hR.more (show n + 6 + 2 * k ≤ n + 10 by omega)
      go_wp2_with fail
      refine (pick_n R (n + 10) 20 _ (by (with_reducible repeat first | assumption | refine RdL.alloc ?_ _ | refine RdL.drew ?_ | refine RdL.drewN ?_ _ | refine RdL.far ?_ (by first | omega | simp <;> omega) _ | refine RdL.later ?_ ‹_›)) (by omega) (by omega) (by omega)).mono ?_
      rintro e w7 ⟨b1, rfl, b1_0, b1_1, hR7, hg7⟩
      have Z7 : Bk w7 w.heap.size 87 #[.int .i64 0, .int .i64 0, .int .i64 0, .int .i64 0, .slice none 0 0, .slice none 0 0, .int .i64 0, .int .i64 0, .int .i64 0, .int .i64 0, .int .i64 0] := by (repeat first | (with_reducible first | assumption | exact kN _ _ _ (by simp) | refine kA ?_ _ | refine kD ?_ | refine kW ?_ _ | apply Bk.set' | refine kF ?_ (by simp <;> omega) _ | refine kL ?_ ‹_› | refine kG ?_ ‹_› (by first | omega | simp <;> omega)) | exact ⟨by with_reducible rfl⟩ | exact ⟨by simp⟩)
      have L7 : Bk w7 M 87 #[.int .i64 a1, .int .i64 (10 + a2), .int .i64 (a3 * 100), .int .i64 (a4 * 100 - 500), .slice (some ⟨m1, 0, none⟩) 0 0, .slice Ag gs.length cg, .int .i64 0, .int .i64 0, .int .i64 0, .int .i64 0, .int .i64 a5] := by (repeat first | (with_reducible first | assumption | exact kN _ _ _ (by simp) | refine kA ?_ _ | refine kD ?_ | refine kW ?_ _ | apply Bk.set' | refine kF ?_ (by simp <;> omega) _ | refine kL ?_ ‹_› | refine kG ?_ ‹_› (by first | omega | simp <;> omega)) | exact ⟨by with_reducible rfl⟩ | exact ⟨by simp⟩)
      have W7 : Own w7 (w.heap.size + 1) 85 4 encBx (.slice (some ⟨m1, 0, none⟩) 0 0) [] := by (with_reducible repeat first | assumption | refine Own.fars ?_ ‹_› _ | refine Own.alloc ?_ _ | refine Own.drew ?_ | refine Own.drewN ?_ _ | refine Own.set (by first | omega | simp <;> omega) ?_ _ | refine Own.later ?_ ‹_› | refine Own.gk ?_ ‹_› (by omega))
      have G7 : Own w7 (w.heap.size + 1) 85 4 encBx (.slice Ag gs.length cg) gs := by (with_reducible repeat first | assumption | refine Own.fars ?_ ‹_› _ | refine Own.alloc ?_ _ | refine Own.drew ?_ | refine Own.drewN ?_ _ | refine Own.set (by first | omega | simp <;> omega) ?_ _ | refine Own.later ?_ ‹_› | refine Own.gk ?_ ‹_› (by omega))
      have hgr7 : w.grownBy w7 (some R) := by (with_reducible repeat first | assumption | exact grownBy_refl _ _ | refine gr_alloc ?_ _ | refine gr_set (by first | omega | simp <;> omega) ?_ _ | refine gr_drew ?_ | refine gr_drewN ?_ _ | refine gr_after ?_ ‹_› | refine gr_below ?_ ‹_›)
      have hsz7 := hgr7.size
      have Zz7 := Z7.lt; have Lz7 := L7.lt; have hRl7 := hR7.lt
      obtain ⟨⟨l0, l1, l2, l3, l4, l5, l6, l7, l8, l9, l10⟩, lf⟩ := L7.c11
      clear hZ hL hW hG hR hgr hg7
      go_wp2_with fail
      refine (pick_n R (n + 11) 4 _ (by (with_reducible repeat first | assumption | refine RdL.alloc ?_ _ | refine RdL.drew ?_ | refine RdL.drewN ?_ _ | refine RdL.far ?_ (by first | omega | simp <;> omega) _ | refine RdL.later ?_ ‹_›)) (by omega) (by omega) (by omega)).mono ?_
      rintro e w8 ⟨b2, rfl, b2_0, b2_1, hR8, hg8⟩
      generalize hxx : xx + 500 + b1 * 100 = fx at *
      have Z8 : Bk w8 w.heap.size 87 #[.int .i64 0, .int .i64 0, .int .i64 0, .int .i64 0, .slice none 0 0, .slice none 0 0, .int .i64 0, .int .i64 0, .int .i64 0, .int .i64 0, .int .i64 0] := by (repeat first | (with_reducible first | assumption | exact kN _ _ _ (by simp) | refine kA ?_ _ | refine kD ?_ | refine kW ?_ _ | apply Bk.set' | refine kF ?_ (by simp <;> omega) _ | refine kL ?_ ‹_› | refine kG ?_ ‹_› (by first | omega | simp <;> omega)) | exact ⟨by with_reducible rfl⟩ | exact ⟨by simp⟩)
      have L8 : Bk w8 M 87 #[.int .i64 a1, .int .i64 (10 + a2), .int .i64 (a3 * 100), .int .i64 (a4 * 100 - 500), .slice (some ⟨m1, 0, none⟩) 0 0, .slice Ag gs.length cg, .int .i64 fx, .int .i64 (-4000), .int .i64 (fx + 6000), .int .i64 4000, .int .i64 a5] := by (repeat first | (with_reducible first | assumption | exact kN _ _ _ (by simp) | refine kA ?_ _ | refine kD ?_ | refine kW ?_ _ | apply Bk.set' | refine kF ?_ (by simp <;> omega) _ | refine kL ?_ ‹_› | refine kG ?_ ‹_› (by first | omega | simp <;> omega)) | exact ⟨by with_reducible rfl⟩ | exact ⟨by simp⟩)
      have W8 : Own w8 (w.heap.size + 1) 85 4 encBx (.slice (some ⟨m1, 0, none⟩) 0 0) [] := by (with_reducible repeat first | assumption | refine Own.fars ?_ ‹_› _ | refine Own.alloc ?_ _ | refine Own.drew ?_ | refine Own.drewN ?_ _ | refine Own.set (by first | omega | simp <;> omega) ?_ _ | refine Own.later ?_ ‹_› | refine Own.gk ?_ ‹_› (by omega))
      have G8 : Own w8 (w.heap.size + 1) 85 4 encBx (.slice Ag gs.length cg) gs := by (with_reducible repeat first | assumption | refine Own.fars ?_ ‹_› _ | refine Own.alloc ?_ _ | refine Own.drew ?_ | refine Own.drewN ?_ _ | refine Own.set (by first | omega | simp <;> omega) ?_ _ | refine Own.later ?_ ‹_› | refine Own.gk ?_ ‹_› (by omega))
      have hgr8 : w.grownBy w8 (some R) := by (with_reducible repeat first | assumption | exact grownBy_refl _ _ | refine gr_alloc ?_ _ | refine gr_set (by first | omega | simp <;> omega) ?_ _ | refine gr_drew ?_ | refine gr_drewN ?_ _ | refine gr_after ?_ ‹_› | refine gr_below ?_ ‹_›)
      have hsz8 := hgr8.size
      have Zz8 := Z8.lt; have Lz8 := L8.lt; have hRl8 := hR8.lt
      obtain ⟨⟨l0, l1, l2, l3, l4, l5, l6, l7, l8, l9, l10⟩, lf⟩ := L8.c11
      clear Z7 L7 W7 G7 hR7 hgr7 hg8
      obtain ⟨K2, rfl⟩ := Int.eq_ofNat_of_zero_le b2_0
      go_wp2
      go_loopw [7] (fun i wr => ∃ (k : Nat) (ws : List Bx) (wv : Value), k ≤ K2 ∧ i = .int .i64 k ∧ ws.length = k ∧ (∀ b ∈ ws, bdBx b) ∧ Own wr (w.heap.size + 1) 85 4 encBx wv ws ∧ (∀ g, wv.ownBlock = some g → g ≠ M ∧ ∀ g2, (Value.slice Ag gs.length cg).ownBlock = some g2 → g ≠ g2) ∧ Own wr (w.heap.size + 1) 85 4 encBx (.slice Ag gs.length cg) gs ∧ Bk wr w.heap.size 87 #[.int .i64 0, .int .i64 0, .int .i64 0, .int .i64 0, .slice none 0 0, .slice none 0 0, .int .i64 0, .int .i64 0, .int .i64 0, .int .i64 0, .int .i64 0] ∧ Bk wr M 87 #[.int .i64 a1, .int .i64 (10 + a2), .int .i64 (a3 * 100), .int .i64 (a4 * 100 - 500), wv, .slice Ag gs.length cg, .int .i64 fx, .int .i64 (-4000), .int .i64 (fx + 6000), .int .i64 4000, .int .i64 a5] ∧ RdL wr R (n + 12 + 4 * k) ∧ w.grownBy wr (some R)) (fun i _ => K2 - (intOf i).toNat)
      case atStart => exact ⟨0, [], _, Nat.zero_le _, rfl, rfl, fun b hb => (by cases hb), W8, fun g e => ⟨hWM g e, fun g2 e2 => by simp only [Value.ownBlock, Option.some.injEq] at e; exact fun e3 => (hGne g2 e2).2 (e3 ▸ e.symm)⟩, G8, Z8, L8, hR8, hgr8⟩
      case round =>
        obtain ⟨j, ws, wv, hj, rfl, hwl, hwb, hW, hWne, hG, hZ, hL, hR, hgr⟩ := hrel
        clear W8 G8 Z8 L8 hR8 hgr8
        have zZ := hZ.lt; have zL := hL.lt; have hRl7 := hR.lt; have hsz7 := hgr.size
        obtain ⟨Aw, cw, rfl, hcw, _⟩ := hW.form
        have hwbk := fun g e => (hW.lt g e).1
        have hWM2 : ∀ g, (Value.slice Aw ws.length cw).ownBlock = some g → g ≠ M := fun g e => (hWne g e).1
        obtain ⟨⟨l0, l1, l2, l3, l4, l5, l6, l7, l8, l9, l10⟩, lf⟩ := hL.c11
        by_cases hlt : j < K2
        · have hws : ws.length ≤ 2 := by omega
          have Hwl := Lib.hid hwl; clear hwl
          have Hwb := Lib.hid hwb; clear hwb
          go_wp2_with fail
          refine (pick_n R (n + 12 + 4 * j) 40 _ (by (with_reducible repeat first | assumption | refine RdL.alloc ?_ _ | refine RdL.drew ?_ | refine RdL.drewN ?_ _ | refine RdL.far ?_ (by first | omega | simp <;> omega) _ | refine RdL.later ?_ ‹_›)) (by omega) (by omega) (by omega)).mono ?_
          rintro e w7 ⟨c1, rfl, c1_0, c1_1, hR7, hg7⟩
          clear l0 l1 l2 l3 l4 l5 l6 l7 l8 l9 l10 lf
          have Z7 : Bk w7 w.heap.size 87 #[.int .i64 0, .int .i64 0, .int .i64 0, .int .i64 0, .slice none 0 0, .slice none 0 0, .int .i64 0, .int .i64 0, .int .i64 0, .int .i64 0, .int .i64 0] := by (repeat first | (with_reducible first | assumption | exact kN _ _ _ (by simp) | refine kA ?_ _ | refine kD ?_ | refine kW ?_ _ | apply Bk.set' | refine kF ?_ (by simp <;> omega) _ | refine kL ?_ ‹_› | refine kG ?_ ‹_› (by first | omega | simp <;> omega)) | exact ⟨by with_reducible rfl⟩ | exact ⟨by simp⟩)
          have L7 : Bk w7 M 87 #[.int .i64 a1, .int .i64 (10 + a2), .int .i64 (a3 * 100), .int .i64 (a4 * 100 - 500), .slice Aw ws.length cw, .slice Ag gs.length cg, .int .i64 fx, .int .i64 (-4000), .int .i64 (fx + 6000), .int .i64 4000, .int .i64 a5] := by (repeat first | (with_reducible first | assumption | exact kN _ _ _ (by simp) | refine kA ?_ _ | refine kD ?_ | refine kW ?_ _ | apply Bk.set' | refine kF ?_ (by simp <;> omega) _ | refine kL ?_ ‹_› | refine kG ?_ ‹_› (by first | omega | simp <;> omega)) | exact ⟨by with_reducible rfl⟩ | exact ⟨by simp⟩)
          have W7 : Own w7 (w.heap.size + 1) 85 4 encBx (.slice Aw ws.length cw) ws := by (with_reducible repeat first | assumption | refine Own.fars ?_ ‹_› _ | refine Own.alloc ?_ _ | refine Own.drew ?_ | refine Own.drewN ?_ _ | refine Own.set (by first | omega | simp <;> omega) ?_ _ | refine Own.later ?_ ‹_› | refine Own.gk ?_ ‹_› (by omega))
          have G7 : Own w7 (w.heap.size + 1) 85 4 encBx (.slice Ag gs.length cg) gs := by (with_reducible repeat first | assumption | refine Own.fars ?_ ‹_› _ | refine Own.alloc ?_ _ | refine Own.drew ?_ | refine Own.drewN ?_ _ | refine Own.set (by first | omega | simp <;> omega) ?_ _ | refine Own.later ?_ ‹_› | refine Own.gk ?_ ‹_› (by omega))
          have hgr7 : w.grownBy w7 (some R) := by (with_reducible repeat first | assumption | exact grownBy_refl _ _ | refine gr_alloc ?_ _ | refine gr_set (by first | omega | simp <;> omega) ?_ _ | refine gr_drew ?_ | refine gr_drewN ?_ _ | refine gr_after ?_ ‹_› | refine gr_below ?_ ‹_›)
          have hsz7 := hgr7.size
          have Zz7 := Z7.lt; have Lz7 := L7.lt; have hRl7 := hR7.lt
          obtain ⟨⟨l0, l1, l2, l3, l4, l5, l6, l7, l8, l9, l10⟩, lf⟩ := L7.c11
          clear hZ hL hW hG hR hgr hg7
          go_wp2_with fail
          refine (pick_n R (n + 12 + 4 * j + 1) 20 _ (by (with_reducible repeat first | assumption | refine RdL.alloc ?_ _ | refine RdL.drew ?_ | refine RdL.drewN ?_ _ | refine RdL.far ?_ (by first | omega | simp <;> omega) _ | refine RdL.later ?_ ‹_›)) (by omega) (by omega) (by omega)).mono ?_
          rintro e w8 ⟨c2, rfl, c2_0, c2_1, hR8, hg8⟩
          clear l0 l1 l2 l3 l4 l5 l6 l7 l8 l9 l10 lf
          have Z8 : Bk w8 w.heap.size 87 #[.int .i64 0, .int .i64 0, .int .i64 0, .int .i64 0, .slice none 0 0, .slice none 0 0, .int .i64 0, .int .i64 0, .int .i64 0, .int .i64 0, .int .i64 0] := by (repeat first | (with_reducible first | assumption | exact kN _ _ _ (by simp) | refine kA ?_ _ | refine kD ?_ | refine kW ?_ _ | apply Bk.set' | refine kF ?_ (by simp <;> omega) _ | refine kL ?_ ‹_› | refine kG ?_ ‹_› (by first | omega | simp <;> omega)) | exact ⟨by with_reducible rfl⟩ | exact ⟨by simp⟩)
          have L8 : Bk w8 M 87 #[.int .i64 a1, .int .i64 (10 + a2), .int .i64 (a3 * 100), .int .i64 (a4 * 100 - 500), .slice Aw ws.length cw, .slice Ag gs.length cg, .int .i64 fx, .int .i64 (-4000), .int .i64 (fx + 6000), .int .i64 4000, .int .i64 a5] := by (repeat first | (with_reducible first | assumption | exact kN _ _ _ (by simp) | refine kA ?_ _ | refine kD ?_ | refine kW ?_ _ | apply Bk.set' | refine kF ?_ (by simp <;> omega) _ | refine kL ?_ ‹_› | refine kG ?_ ‹_› (by first | omega | simp <;> omega)) | exact ⟨by with_reducible rfl⟩ | exact ⟨by simp⟩)
          have W8 : Own w8 (w.heap.size + 1) 85 4 encBx (.slice Aw ws.length cw) ws := by (with_reducible repeat first | assumption | refine Own.fars ?_ ‹_› _ | refine Own.alloc ?_ _ | refine Own.drew ?_ | refine Own.drewN ?_ _ | refine Own.set (by first | omega | simp <;> omega) ?_ _ | refine Own.later ?_ ‹_› | refine Own.gk ?_ ‹_› (by omega))
          have G8 : Own w8 (w.heap.size + 1) 85 4 encBx (.slice Ag gs.length cg) gs := by (with_reducible repeat first | assumption | refine Own.fars ?_ ‹_› _ | refine Own.alloc ?_ _ | refine Own.drew ?_ | refine Own.drewN ?_ _ | refine Own.set (by first | omega | simp <;> omega) ?_ _ | refine Own.later ?_ ‹_› | refine Own.gk ?_ ‹_› (by omega))
          have hgr8 : w.grownBy w8 (some R) := by (with_reducible repeat first | assumption | exact grownBy_refl _ _ | refine gr_alloc ?_ _ | refine gr_set (by first | omega | simp <;> omega) ?_ _ | refine gr_drew ?_ | refine gr_drewN ?_ _ | refine gr_after ?_ ‹_› | refine gr_below ?_ ‹_›)
          have hsz8 := hgr8.size
          have Zz8 := Z8.lt; have Lz8 := L8.lt; have hRl8 := hR8.lt
          obtain ⟨⟨l0, l1, l2, l3, l4, l5, l6, l7, l8, l9, l10⟩, lf⟩ := L8.c11
          clear Z7 L7 W7 G7 hR7 hgr7 hg8
          go_wp2_with fail
          refine (pick_n R (n + 12 + 4 * j + 2) 2 _ (by (with_reducible repeat first | assumption | refine RdL.alloc ?_ _ | refine RdL.drew ?_ | refine RdL.drewN ?_ _ | refine RdL.far ?_ (by first | omega | simp <;> omega) _ | refine RdL.later ?_ ‹_›)) (by omega) (by omega) (by omega)).mono ?_
          rintro e w9 ⟨c3, rfl, c3_0, c3_1, hR9, hg9⟩
          clear l0 l1 l2 l3 l4 l5 l6 l7 l8 l9 l10 lf
          have Z9 : Bk w9 w.heap.size 87 #[.int .i64 0, .int .i64 0, .int .i64 0, .int .i64 0, .slice none 0 0, .slice none 0 0, .int .i64 0, .int .i64 0, .int .i64 0, .int .i64 0, .int .i64 0] := by (repeat first | (with_reducible first | assumption | exact kN _ _ _ (by simp) | refine kA ?_ _ | refine kD ?_ | refine kW ?_ _ | apply Bk.set' | refine kF ?_ (by simp <;> omega) _ | refine kL ?_ ‹_› | refine kG ?_ ‹_› (by first | omega | simp <;> omega)) | exact ⟨by with_reducible rfl⟩ | exact ⟨by simp⟩)
          have L9 : Bk w9 M 87 #[.int .i64 a1, .int .i64 (10 + a2), .int .i64 (a3 * 100), .int .i64 (a4 * 100 - 500), .slice Aw ws.length cw, .slice Ag gs.length cg, .int .i64 fx, .int .i64 (-4000), .int .i64 (fx + 6000), .int .i64 4000, .int .i64 a5] := by (repeat first | (with_reducible first | assumption | exact kN _ _ _ (by simp) | refine kA ?_ _ | refine kD ?_ | refine kW ?_ _ | apply Bk.set' | refine kF ?_ (by simp <;> omega) _ | refine kL ?_ ‹_› | refine kG ?_ ‹_› (by first | omega | simp <;> omega)) | exact ⟨by with_reducible rfl⟩ | exact ⟨by simp⟩)
          have W9 : Own w9 (w.heap.size + 1) 85 4 encBx (.slice Aw ws.length cw) ws := by (with_reducible repeat first | assumption | refine Own.fars ?_ ‹_› _ | refine Own.alloc ?_ _ | refine Own.drew ?_ | refine Own.drewN ?_ _ | refine Own.set (by first | omega | simp <;> omega) ?_ _ | refine Own.later ?_ ‹_› | refine Own.gk ?_ ‹_› (by omega))
          have G9 : Own w9 (w.heap.size + 1) 85 4 encBx (.slice Ag gs.length cg) gs := by (with_reducible repeat first | assumption | refine Own.fars ?_ ‹_› _ | refine Own.alloc ?_ _ | refine Own.drew ?_ | refine Own.drewN ?_ _ | refine Own.set (by first | omega | simp <;> omega) ?_ _ | refine Own.later ?_ ‹_› | refine Own.gk ?_ ‹_› (by omega))
          have hgr9 : w.grownBy w9 (some R) := by (with_reducible repeat first | assumption | exact grownBy_refl _ _ | refine gr_alloc ?_ _ | refine gr_set (by first | omega | simp <;> omega) ?_ _ | refine gr_drew ?_ | refine gr_drewN ?_ _ | refine gr_after ?_ ‹_› | refine gr_below ?_ ‹_›)
          have hsz9 := hgr9.size
          have Zz9 := Z9.lt; have Lz9 := L9.lt; have hRl9 := hR9.lt
          obtain ⟨⟨l0, l1, l2, l3, l4, l5, l6, l7, l8, l9, l10⟩, lf⟩ := L9.c11
          clear Z8 L8 W8 G8 hR8 hgr8 hg9
          have hyb : -3400 ≤ (1500 + c2 * 100) * (1 - 2 * c3) ∧ (1500 + c2 * 100) * (1 - 2 * c3) ≤ 3400 := by rcases (show c3 = 0 ∨ c3 = 1 by omega) with rfl | rfl <;> omega
          obtain ⟨hy0, hy1⟩ := hyb
          generalize hV : w9.heap.size = V at *
          have hVM : M < V := by omega
          go_wp2
          have hWV : ∀ g, (Value.slice Aw ws.length cw).ownBlock = some g → g < V := fun g e => by have := (W9.lt g e).2; omega
          generalize hcx : c1 * 400 - 2000 = cx at *
          generalize hcy : (1500 + c2 * 100) * (1 - 2 * c3) = cy at *
          refine wp_world (fun u => Bk u V 82 #[.int .i64 cx, .int .i64 cy] ∧ Bk u w.heap.size 87 #[.int .i64 0, .int .i64 0, .int .i64 0, .int .i64 0, .slice none 0 0, .slice none 0 0, .int .i64 0, .int .i64 0, .int .i64 0, .int .i64 0, .int .i64 0] ∧ Bk u M 87 #[.int .i64 a1, .int .i64 (10 + a2), .int .i64 (a3 * 100), .int .i64 (a4 * 100 - 500), .slice Aw ws.length cw, .slice Ag gs.length cg, .int .i64 fx, .int .i64 (-4000), .int .i64 (fx + 6000), .int .i64 4000, .int .i64 a5] ∧ Own u (w.heap.size + 1) 85 4 encBx (.slice Aw ws.length cw) ws ∧ Own u (w.heap.size + 1) 85 4 encBx (.slice Ag gs.length cg) gs ∧ RdL u R (n + 12 + 4 * j + 3) ∧ w.grownBy u (some R)) ⟨Bk.new _ _ _ hV, by (repeat first | (with_reducible first | assumption | exact kN _ _ _ (by simp) | refine kA ?_ _ | refine kD ?_ | refine kW ?_ _ | apply Bk.set' | refine kF ?_ (by simp <;> omega) _ | refine kL ?_ ‹_› | refine kG ?_ ‹_› (by first | omega | simp <;> omega)) | exact ⟨by with_reducible rfl⟩ | exact ⟨by simp⟩), by (repeat first | (with_reducible first | assumption | exact kN _ _ _ (by simp) | refine kA ?_ _ | refine kD ?_ | refine kW ?_ _ | apply Bk.set' | refine kF ?_ (by simp <;> omega) _ | refine kL ?_ ‹_› | refine kG ?_ ‹_› (by first | omega | simp <;> omega)) | exact ⟨by with_reducible rfl⟩ | exact ⟨by simp⟩), by (with_reducible repeat first | assumption | refine Own.fars ?_ ‹_› _ | refine Own.alloc ?_ _ | refine Own.drew ?_ | refine Own.drewN ?_ _ | refine Own.set (by first | omega | simp <;> omega) ?_ _ | refine Own.later ?_ ‹_› | refine Own.gk ?_ ‹_› (by omega)), by (with_reducible repeat first | assumption | refine Own.fars ?_ ‹_› _ | refine Own.alloc ?_ _ | refine Own.drew ?_ | refine Own.drewN ?_ _ | refine Own.set (by first | omega | simp <;> omega) ?_ _ | refine Own.later ?_ ‹_› | refine Own.gk ?_ ‹_› (by omega)), by (with_reducible repeat first | assumption | refine RdL.alloc ?_ _ | refine RdL.drew ?_ | refine RdL.drewN ?_ _ | refine RdL.far ?_ (by first | omega | simp <;> omega) _ | refine RdL.later ?_ ‹_›), by (with_reducible repeat first | assumption | exact grownBy_refl _ _ | refine gr_alloc ?_ _ | refine gr_set (by first | omega | simp <;> omega) ?_ _ | refine gr_drew ?_ | refine gr_drewN ?_ _ | refine gr_after ?_ ‹_› | refine gr_below ?_ ‹_›)⟩ ?_
          rintro w10 ⟨V10, Z10, L10, W10, G10, hR10, hgr10⟩
          clear l0 l1 l2 l3 l4 l5 l6 l7 l8 l9 l10 lf Z9 L9 W9 G9 hR9 hgr9
          have Vz10 := V10.lt; have Lz10 := L10.lt; have hRl10 := hR10.lt; have hsz10 := hgr10.size
          have hcxb : -2000 ≤ cx ∧ cx ≤ 14000 := by omega
          obtain ⟨hcx0, hcx1⟩ := hcxb
          clear hcx hcy
          obtain ⟨⟨l0, l1, l2, l3, l4, l5, l6, l7, l8, l9, l10⟩, lf⟩ := L10.c11; obtain ⟨⟨v0, v1⟩, vf⟩ := V10.c2
          have e1 : IntKind.i64.wrap (cx + 1000) = cx + 1000 := IntWalk.i64_in _ (by omega)
          have e2 : IntKind.i64.wrap (cy - 500) = cy - 500 := IntWalk.i64_in _ (by omega)
          have e3 : IntKind.i64.wrap (cy + 500) = cy + 500 := IntWalk.i64_in _ (by omega)
          rw [show Op.load 83 (Operand.tmp 92) = ldOp 83 (Operand.tmp 92) from rfl]
          go_region_held3 (fun w' => w'.cell? ⟨V, 0, none⟩ = some (.int .i64 cx) ∧ w'.cell? ⟨V, 1, none⟩ = some (.int .i64 cy))
        (first | (with_reducible exact keepV V10.drew) | (with_reducible exact keepV V8) | (with_reducible exact keepV (V8.alloc _)) | (with_reducible exact keepV V9) | (with_reducible exact keepV (V9.far (by omega) _)) | (with_reducible exact keepV (V9.far (by simp; omega) _)))
        (first
        | (go_simp; go_at_call 72; refine (pick_n R (n + 12 + 4 * j + 3) 30 _ (by (with_reducible repeat first | assumption | refine RdL.alloc ?_ _ | refine RdL.drew ?_ | refine RdL.drewN ?_ _ | refine RdL.far ?_ (by first | omega | simp <;> omega) _ | refine RdL.later ?_ ‹_›)) (by omega) (by omega) (by omega)).mono ?_; rintro e w8 ⟨c4, rfl, c4_0, c4_1, hR8, hg8⟩; have f2 : IntKind.i64.wrap (c4 * 100) = c4 * 100 := IntWalk.i64_in _ (by omega); have f3 : IntKind.i64.wrap (cx + 1000 + c4 * 100) = cx + 1000 + c4 * 100 := IntWalk.i64_in _ (by omega); have W8 : Own w8 (w.heap.size + 1) 85 4 encBx (.slice Aw ws.length cw) ws := (by (with_reducible repeat first | assumption | refine Own.fars ?_ ‹_› _ | refine Own.alloc ?_ _ | refine Own.drew ?_ | refine Own.drewN ?_ _ | refine Own.set (by first | omega | simp <;> omega) ?_ _ | refine Own.later ?_ ‹_› | refine Own.gk ?_ ‹_› (by omega))); have L8 : Bk w8 M 87 #[.int .i64 a1, .int .i64 (10 + a2), .int .i64 (a3 * 100), .int .i64 (a4 * 100 - 500), .slice Aw ws.length cw, .slice Ag gs.length cg, .int .i64 fx, .int .i64 (-4000), .int .i64 (fx + 6000), .int .i64 4000, .int .i64 a5] := (by (repeat first | (with_reducible first | assumption | exact kN _ _ _ (by simp) | refine kA ?_ _ | refine kD ?_ | refine kW ?_ _ | apply Bk.set' | refine kF ?_ (by simp <;> omega) _ | refine kL ?_ ‹_› | refine kG ?_ ‹_› (by first | omega | simp <;> omega)) | exact ⟨by with_reducible rfl⟩ | exact ⟨by simp⟩)); have V8 : Bk w8 V 82 #[.int .i64 cx, .int .i64 cy] := (by (repeat first | (with_reducible first | assumption | exact kN _ _ _ (by simp) | refine kA ?_ _ | refine kD ?_ | refine kW ?_ _ | apply Bk.set' | refine kF ?_ (by simp <;> omega) _ | refine kL ?_ ‹_› | refine kG ?_ ‹_› (by first | omega | simp <;> omega)) | exact ⟨by with_reducible rfl⟩ | exact ⟨by simp⟩)); have hRl8 := hR8.lt; have hs8 := hg8.size; have Lz8 := L8.lt; have Vz8 := V8.lt; obtain ⟨⟨x0, x1, x2, x3, x4, x5, x6, x7, x8, x9, x10⟩, xf⟩ := L8.c11)
        | (refine step_appL rfl (.tmp 93) (.tmp 112) _ rfl (w.heap.size + 1) 85 i0 (.agg #[.int .i64 0, .int .i64 0, .int .i64 0, .int .i64 0]) 4 32 Tryd.underlying83 hi hz0 hz1 hz2 rfl (by decide) encBx_len one_bxD _ ws [⟨⟨cx, cy - 500⟩, ⟨cx + 1000 + c4 * 100, cy + 500⟩⟩] (by simp [Act.eval]) (W8.alloc _) _ 1 1 (by simp [Act.eval]) (Sl.one _ _ _ _ rfl) (by intro e; cases e) (by unfold maxLen; omega) (by omega) (by simp; omega) ?_; intro v9 w9 W9 hg9 hl9; obtain ⟨A9, c9, hv9, hc9, _⟩ := W9.form; rw [List.length_append, List.length_singleton] at hv9; subst hv9; have L9 := (L8.alloc (.cells #[.int .i64 cx, .int .i64 (cy - 500), .int .i64 (cx + 1000 + c4 * 100), .int .i64 (cy + 500)] 85)).grown hg9 (by intro e; exact (hWne _ e.symm).1 rfl); have V9 := (V8.alloc (.cells #[.int .i64 cx, .int .i64 (cy - 500), .int .i64 (cx + 1000 + c4 * 100), .int .i64 (cy + 500)] 85)).grown hg9 (by intro e; have := hWV _ e.symm; omega); obtain ⟨⟨y0, y1, y2, y3, y4, y5, y6, y7, y8, y9, y10⟩, yf⟩ := L9.c11))
          all_goals
            have hs8 := hg8.size
            have G8 : Own w8 (w.heap.size + 1) 85 4 encBx (.slice Ag gs.length cg) gs := by (with_reducible repeat first | assumption | refine Own.fars ?_ ‹_› _ | refine Own.alloc ?_ _ | refine Own.drew ?_ | refine Own.drewN ?_ _ | refine Own.set (by first | omega | simp <;> omega) ?_ _ | refine Own.later ?_ ‹_› | refine Own.gk ?_ ‹_› (by omega))
            have hb9 : ∀ g, (Value.slice A9 (ws.length + 1) c9).ownBlock = some g → g ≠ M ∧ ∀ g2, (Value.slice Ag gs.length cg).ownBlock = some g2 → g ≠ g2 := by
              intro g e
              rcases hl9 with q | q
              · exact hWne g (q ▸ e)
              · rw [q] at e; simp at e hs8; exact ⟨by omega, fun g2 e2 => by have := (G8.lt g2 e2).2; omega⟩
            have G9 := (G8.alloc (.cells #[.int .i64 cx, .int .i64 (cy - 500), .int .i64 (cx + 1000 + c4 * 100), .int .i64 (cy + 500)] 85)).keptN hg9 (fun g e e2 => (hWne g e2).2 g e rfl)
            have Z8 : Bk w8 w.heap.size 87 #[.int .i64 0, .int .i64 0, .int .i64 0, .int .i64 0, .slice none 0 0, .slice none 0 0, .int .i64 0, .int .i64 0, .int .i64 0, .int .i64 0, .int .i64 0] := by (repeat first | (with_reducible first | assumption | exact kN _ _ _ (by simp) | refine kA ?_ _ | refine kD ?_ | refine kW ?_ _ | apply Bk.set' | refine kF ?_ (by simp <;> omega) _ | refine kL ?_ ‹_› | refine kG ?_ ‹_› (by first | omega | simp <;> omega)) | exact ⟨by with_reducible rfl⟩ | exact ⟨by simp⟩)
            have Z9 := (Z8.alloc (.cells #[.int .i64 cx, .int .i64 (cy - 500), .int .i64 (cx + 1000 + c4 * 100), .int .i64 (cy + 500)] 85)).grown hg9 (by intro e; have := hwbk _ e.symm; omega)
            have hgr8 : w.grownBy w8 (some R) := by (with_reducible repeat first | assumption | exact grownBy_refl _ _ | refine gr_alloc ?_ _ | refine gr_set (by first | omega | simp <;> omega) ?_ _ | refine gr_drew ?_ | refine gr_drewN ?_ _ | refine gr_after ?_ ‹_› | refine gr_below ?_ ‹_›)
            have hgr9 := gr_own (gr_alloc hgr8 _) hg9 (fun g e => by have := hwbk g e; omega)
            have hR9 := (hR8.alloc (.cells #[.int .i64 cx, .int .i64 (cy - 500), .int .i64 (cx + 1000 + c4 * 100), .int .i64 (cy + 500)] 85)).own hg9 (fun g e => by have := hwbk g e; omega)
            have hwb9 : ∀ b ∈ ws ++ [(⟨⟨cx, cy - 500⟩, ⟨cx + 1000 + c4 * 100, cy + 500⟩⟩ : Bx)], bdBx b := by
              intro b hb
              rcases List.mem_append.1 hb with hb | hb
              · exact Hwb.out b hb
              · rw [List.mem_singleton] at hb; subst hb; unfold bdBx bdV; simp only; omega
            clear W8 Z8 hgr8 hR8 G8 L8 hg8 hg9 hl9 L10 Z10 W10 G10 hgr10 V9 V8 V10
            go_wp2
            case roundEnd =>
              go_roundw
              case rel => exact ⟨j + 1, _, _, by omega, by go_num, by rw [List.length_append, Hwl.out]; rfl, hwb9, W9.fars (fun g e => (hb9 g e).1) _, hb9, G9.fars (fun g e => (hGM g e)) _, Z9.far (by simp; omega) _, L9.set' (SetTo.mk (by simp)), (hR9.far (by simp; omega) _).more (by omega), gr_set (by simp; omega) hgr9 _⟩
              case measure => simp [intOf]; omega
        · have hws : ws.length ≤ 3 := by omega
          replace hR := hR.more (show n + 12 + 4 * j ≤ n + 24 by omega)
          clear hwl hWM
          go_wp2_with fail
          refine (pick_n R (n + 24) 6 _ (by (with_reducible repeat first | assumption | refine RdL.alloc ?_ _ | refine RdL.drew ?_ | refine RdL.drewN ?_ _ | refine RdL.far ?_ (by first | omega | simp <;> omega) _ | refine RdL.later ?_ ‹_›)) (by omega) (by omega) (by omega)).mono ?_
          rintro e w7 ⟨d1, rfl, d1_0, d1_1, hR7, hg7⟩
          clear l0 l1 l2 l3 l4 l5 l6 l7 l8 l9 l10 lf
          have Z7 : Bk w7 w.heap.size 87 #[.int .i64 0, .int .i64 0, .int .i64 0, .int .i64 0, .slice none 0 0, .slice none 0 0, .int .i64 0, .int .i64 0, .int .i64 0, .int .i64 0, .int .i64 0] := by (repeat first | (with_reducible first | assumption | exact kN _ _ _ (by simp) | refine kA ?_ _ | refine kD ?_ | refine kW ?_ _ | apply Bk.set' | refine kF ?_ (by simp <;> omega) _ | refine kL ?_ ‹_› | refine kG ?_ ‹_› (by first | omega | simp <;> omega)) | exact ⟨by with_reducible rfl⟩ | exact ⟨by simp⟩)
          have L7 : Bk w7 M 87 #[.int .i64 a1, .int .i64 (10 + a2), .int .i64 (a3 * 100), .int .i64 (a4 * 100 - 500), .slice Aw ws.length cw, .slice Ag gs.length cg, .int .i64 fx, .int .i64 (-4000), .int .i64 (fx + 6000), .int .i64 4000, .int .i64 a5] := by (repeat first | (with_reducible first | assumption | exact kN _ _ _ (by simp) | refine kA ?_ _ | refine kD ?_ | refine kW ?_ _ | apply Bk.set' | refine kF ?_ (by simp <;> omega) _ | refine kL ?_ ‹_› | refine kG ?_ ‹_› (by first | omega | simp <;> omega)) | exact ⟨by with_reducible rfl⟩ | exact ⟨by simp⟩)
          have W7 : Own w7 (w.heap.size + 1) 85 4 encBx (.slice Aw ws.length cw) ws := by (with_reducible repeat first | assumption | refine Own.fars ?_ ‹_› _ | refine Own.alloc ?_ _ | refine Own.drew ?_ | refine Own.drewN ?_ _ | refine Own.set (by first | omega | simp <;> omega) ?_ _ | refine Own.later ?_ ‹_› | refine Own.gk ?_ ‹_› (by omega))
          have G7 : Own w7 (w.heap.size + 1) 85 4 encBx (.slice Ag gs.length cg) gs := by (with_reducible repeat first | assumption | refine Own.fars ?_ ‹_› _ | refine Own.alloc ?_ _ | refine Own.drew ?_ | refine Own.drewN ?_ _ | refine Own.set (by first | omega | simp <;> omega) ?_ _ | refine Own.later ?_ ‹_› | refine Own.gk ?_ ‹_› (by omega))
          have hgr7 : w.grownBy w7 (some R) := by (with_reducible repeat first | assumption | exact grownBy_refl _ _ | refine gr_alloc ?_ _ | refine gr_set (by first | omega | simp <;> omega) ?_ _ | refine gr_drew ?_ | refine gr_drewN ?_ _ | refine gr_after ?_ ‹_› | refine gr_below ?_ ‹_›)
          have hsz7 := hgr7.size
          have Zz7 := Z7.lt; have Lz7 := L7.lt; have hRl7 := hR7.lt
          obtain ⟨⟨l0, l1, l2, l3, l4, l5, l6, l7, l8, l9, l10⟩, lf⟩ := L7.c11
          clear hZ hL hW hG hR hgr hg7
          obtain ⟨⟨z0, z1, z2, z3, z4, z5, z6, z7, z8, z9, z10⟩, zf⟩ := Z7.c11
          have hLD : ∀ ws2 : List Bx, ws2.length ≤ 4 → (∀ b ∈ ws2, bdBx b) → LevD ⟨a1, 10 + a2, ⟨a3 * 100, a4 * 100 - 500⟩, ws2, gs, ⟨⟨fx, -4000⟩, ⟨fx + 6000, 4000⟩⟩, a5⟩ := fun ws2 h1 h2 => ⟨⟨vOk_iff.2 (by simp only; omega), h2, by simp only; omega, by simp only; omega, by simp only; omega, by simp only; omega⟩, by simp only; omega, by simp only; omega, h1, by simp only; omega⟩
          have HLD := Lib.hid hLD; clear hLD
          have Hwb := Lib.hid hwb; clear hwb
          by_cases hd : d1 = 0
          · subst hd
            go_wp2_with (at_builtin; refine wp_appL rfl _ _ _ rfl (w.heap.size + 1) 85 i0 (.agg #[.int .i64 0, .int .i64 0, .int .i64 0, .int .i64 0]) 4 32 Tryd.underlying83 hi hz0 hz1 hz2 rfl (by decide) encBx_len one_bxD _ ws [⟨⟨fx + 7000, -9000⟩, ⟨fx + 8000, 9000⟩⟩] rfl (W7.alloc _) _ 1 1 rfl (Sl.one _ _ _ _ rfl) (by intro e; cases e) (by unfold maxLen; omega) (by omega) (by simp; omega) ?_; intro v9 w9 W9 hg9 hl9; obtain ⟨A9, c9, hv9, hc9, _⟩ := W9.form; rw [List.length_append, List.length_singleton] at hv9; subst hv9; have L9 := (L7.alloc (.cells #[.int .i64 (fx + 7000), .int .i64 (-9000), .int .i64 (fx + 8000), .int .i64 9000] 85)).grown hg9 (by intro e; exact (hWne _ e.symm).1 rfl); have Z9 := (Z7.alloc (.cells #[.int .i64 (fx + 7000), .int .i64 (-9000), .int .i64 (fx + 8000), .int .i64 9000] 85)).grown hg9 (by intro e; have := hwbk _ e.symm; omega); have zL9 := L9.lt; have zZ9 := Z9.lt; obtain ⟨⟨y0, y1, y2, y3, y4, y5, y6, y7, y8, y9, y10⟩, yf⟩ := L9.c11; obtain ⟨⟨x0, x1, x2, x3, x4, x5, x6, x7, x8, x9, x10⟩, xf⟩ := Z9.c11)
            have hb9 : ∀ g, (Value.slice A9 (ws.length + 1) c9).ownBlock = some g → g ≠ M := by
              intro g e
              rcases hl9 with q | q
              · exact (hWne g (q ▸ e)).1
              · rw [q] at e; simp at e; omega
            have G9 := (G7.alloc (.cells #[.int .i64 (fx + 7000), .int .i64 (-9000), .int .i64 (fx + 8000), .int .i64 9000] 85)).keptN hg9 (fun g e e2 => (hWne g e2).2 g e rfl)
            have hgr9 := gr_own (gr_alloc hgr7 _) hg9 (fun g e => by have := hwbk g e; omega)
            have hR9 := (hR7.alloc (.cells #[.int .i64 (fx + 7000), .int .i64 (-9000), .int .i64 (fx + 8000), .int .i64 9000] 85)).own hg9 (fun g e => by have := hwbk g e; omega)
            have hwb9 : ∀ b ∈ ws ++ [(⟨⟨fx + 7000, -9000⟩, ⟨fx + 8000, 9000⟩⟩ : Bx)], bdBx b := by
              intro b hb
              rcases List.mem_append.1 hb with hb | hb
              · exact Hwb.out b hb
              · rw [List.mem_singleton] at hb; subst hb; unfold bdBx bdV; simp only; omega
            clear hg9 hl9 L7 Z7 W7 G7 hgr7 hR7 hWne hGne
            refine bodyPost_ret (v := .agg #[.int .i64 a1, .int .i64 (10 + a2), .int .i64 (a3 * 100), .int .i64 (a4 * 100 - 500), .slice A9 (ws.length + 1) c9, .slice Ag gs.length cg, .int .i64 fx, .int .i64 (-4000), .int .i64 (fx + 6000), .int .i64 4000, .int .i64 a5]) (by simp [results, Tryd.results70, go_sem, *]) rfl ?_
            refine ⟨⟨a1, 10 + a2, ⟨a3 * 100, a4 * 100 - 500⟩, ws ++ [(⟨⟨fx + 7000, -9000⟩, ⟨fx + 8000, 9000⟩⟩ : Bx)], gs, ⟨⟨fx, -4000⟩, ⟨fx + 6000, 4000⟩⟩, a5⟩, A9, c9, Ag, cg, by simp, HLD.out _ (by first | omega | (simp; omega)) hwb9, ?_, ?_, ?_, ?_⟩
            · refine Own.mono (B := w.heap.size + 1) ?_ (by omega)
              simp only [List.length_append, List.length_singleton]
              (with_reducible repeat first | assumption | refine Own.fars ?_ ‹_› _ | refine Own.alloc ?_ _ | refine Own.drew ?_ | refine Own.drewN ?_ _ | refine Own.set (by first | omega | simp <;> omega) ?_ _ | refine Own.later ?_ ‹_› | refine Own.gk ?_ ‹_› (by omega))
            · refine Own.mono (B := w.heap.size + 1) ?_ (by omega)
              (with_reducible repeat first | assumption | refine Own.fars ?_ ‹_› _ | refine Own.alloc ?_ _ | refine Own.drew ?_ | refine Own.drewN ?_ _ | refine Own.set (by first | omega | simp <;> omega) ?_ _ | refine Own.later ?_ ‹_› | refine Own.gk ?_ ‹_› (by omega))
            · refine RdL.more (n := n + 25) ?_ (by omega)
              (with_reducible repeat first | assumption | refine RdL.alloc ?_ _ | refine RdL.drew ?_ | refine RdL.drewN ?_ _ | refine RdL.far ?_ (by first | omega | simp <;> omega) _ | refine RdL.later ?_ ‹_›)
            · (with_reducible repeat first | assumption | exact grownBy_refl _ _ | refine gr_alloc ?_ _ | refine gr_set (by first | omega | simp <;> omega) ?_ _ | refine gr_drew ?_ | refine gr_drewN ?_ _ | refine gr_after ?_ ‹_› | refine gr_below ?_ ‹_›)
          · have hdb : (d1 == 0) = false := by simpa using hd
            go_wp2
            clear hWne hGne
            refine bodyPost_ret (v := .agg #[.int .i64 a1, .int .i64 (10 + a2), .int .i64 (a3 * 100), .int .i64 (a4 * 100 - 500), .slice Aw ws.length cw, .slice Ag gs.length cg, .int .i64 fx, .int .i64 (-4000), .int .i64 (fx + 6000), .int .i64 4000, .int .i64 a5]) (by simp [results, Tryd.results70, go_sem, *]) rfl ?_
            refine ⟨⟨a1, 10 + a2, ⟨a3 * 100, a4 * 100 - 500⟩, ws, gs, ⟨⟨fx, -4000⟩, ⟨fx + 6000, 4000⟩⟩, a5⟩, Aw, cw, Ag, cg, by simp, HLD.out _ (by first | omega | (simp; omega)) Hwb.out, ?_, ?_, ?_, ?_⟩
            · refine Own.mono (B := w.heap.size + 1) ?_ (by omega)
              (with_reducible repeat first | assumption | refine Own.fars ?_ ‹_› _ | refine Own.alloc ?_ _ | refine Own.drew ?_ | refine Own.drewN ?_ _ | refine Own.set (by first | omega | simp <;> omega) ?_ _ | refine Own.later ?_ ‹_› | refine Own.gk ?_ ‹_› (by omega))
            · refine Own.mono (B := w.heap.size + 1) ?_ (by omega)
              (with_reducible repeat first | assumption | refine Own.fars ?_ ‹_› _ | refine Own.alloc ?_ _ | refine Own.drew ?_ | refine Own.drewN ?_ _ | refine Own.set (by first | omega | simp <;> omega) ?_ _ | refine Own.later ?_ ‹_› | refine Own.gk ?_ ‹_› (by omega))
            · refine RdL.more (n := n + 25) ?_ (by omega)
              (with_reducible repeat first | assumption | refine RdL.alloc ?_ _ | refine RdL.drew ?_ | refine RdL.drewN ?_ _ | refine RdL.far ?_ (by first | omega | simp <;> omega) _ | refine RdL.later ?_ ‹_›)
            · (with_reducible repeat first | assumption | exact grownBy_refl _ _ | refine gr_alloc ?_ _ | refine gr_set (by first | omega | simp <;> omega) ?_ _ | refine gr_drew ?_ | refine gr_drewN ?_ _ | refine gr_after ?_ ‹_› | refine gr_below ?_ ‹_›)
end Go.Proofs.YtdpoicfciogfnaaDoor

/- Draws of runs: l92Run. -/
namespace Go.Proofs.YtdpoicfciogfnaaDoor
open Go.ChangeShapes Go.WideShapes Go.ChangeAt Go.RowKit
theorem Sl.one_at {α : Type} {enc : α → List Value} {sz : Nat} (w : World) (x : α) (T : TypeId) (cs : Array Value) (hcs : cs.toList = enc x) {g : Nat} (hg : w.heap.size = g) : Sl (w.alloc (.cells cs T)) sz enc (some ⟨g, 0, none⟩) 1 [x] := hg ▸ Sl.one w x T cs hcs
theorem Sl.drew {α : Type} {w : World} {sz : Nat} {enc : α → List Value} {A : Option Addr} {n : Nat} {l : List α} (h : Sl w sz enc A n l) : Sl w.drew sz enc A n l := h
/-- What stands in a round of l92Run. -/
structure RunS (l : Lev) (A A' : Option Addr) (c c' : Nat) (R n N I S : Nat) (b : Inp) (s : St) (w u : World) : Prop where
  L : Bk u N 87 #[.int .i64 l.id, .int .i64 l.ticks, .int .i64 l.start.x, .int .i64 l.start.y, .slice A l.walls.length c, .slice A' l.gates.length c', .int .i64 l.fin.lo.x, .int .i64 l.fin.lo.y, .int .i64 l.fin.hi.x, .int .i64 l.fin.hi.y, .int .i64 l.bans]
  B : Bk u I 68 #[.int .i64 b.s, .int .i64 b.p, .bool b.z]
  T : Bk u S 132 #[.int .i64 s.t, .int .i64 s.p.x, .int .i64 s.p.y, .int .i64 s.f.x, .int .i64 s.f.y, .int .i64 s.d, .int .i64 s.g, .bool s.dn, .bool s.ov]
  r : RdL u R n
  g : w.grownBy u (some R)
  hW : Sl u 4 encBx A l.walls.length l.walls
  hG : Sl u 4 encBx A' l.gates.length l.gates
section
variable {l : Lev} {A A' : Option Addr} {c c' : Nat} {R n N I S : Nat} {b : Inp} {s : St} {w u u' : World}
theorem RunS.below (h : RunS l A A' c c' R n N I S b s w u) (hb : Below u.heap.size u u') : RunS l A A' c c' R n N I S b s w u' :=
  ⟨h.L.later hb, h.B.later hb, h.T.later hb, h.r.later hb, gr_below h.g hb, h.hW.below hb, h.hG.below hb⟩
theorem RunS.alloc (h : RunS l A A' c c' R n N I S b s w u) (o : Obj) : RunS l A A' c c' R n N I S b s w (u.alloc o) := h.below (below_alloc (Below.refl _ _) o)
theorem RunS.drew (h : RunS l A A' c c' R n N I S b s w u) : RunS l A A' c c' R n N I S b s w u.drew := h.below (below_drew (Below.refl _ _))
theorem RunS.rd {m : Nat} (h : RunS l A A' c c' R n N I S b s w u) (hg : u.grownBy u' (some R)) (hr : RdL u' R m) (h1 : R < N) (h2 : R < I) (h3 : R < S) (hA : ∀ a, A = some a → R < a.block) (hA' : ∀ a, A' = some a → R < a.block) : RunS l A A' c c' R m N I S b s w u' :=
  ⟨h.L.grown hg (by intro e; injection e; omega), h.B.grown hg (by intro e; injection e; omega), h.T.grown hg (by intro e; injection e; omega), hr, gr_after h.g hg,
   h.hW.grown hg (fun a e e2 => by injection e2 with e2; have := hA a e; omega), h.hG.grown hg (fun a e e2 => by injection e2 with e2; have := hA' a e; omega)⟩
theorem RunS.own {row : Option Nat} (h : RunS l A A' c c' R n N I S b s w u) (hg : u.grownBy u' row) (hrow : ∀ g, row = some g → S < g) (h1 : N < S) (h2 : I < S) (h3 : R < S) (hs : w.heap.size ≤ S) (hA : ∀ a, A = some a → a.block < S) (hA' : ∀ a, A' = some a → a.block < S) : RunS l A A' c c' R n N I S b s w u' :=
  ⟨h.L.grown hg (by intro e; have := hrow _ e.symm; omega), h.B.grown hg (by intro e; have := hrow _ e.symm; omega), h.T.grown hg (by intro e; have := hrow _ e.symm; omega),
   h.r.own hg (fun g e => by have := hrow g e; omega), gr_own h.g hg (fun g e => by have := hrow g e; omega),
   h.hW.grown hg (fun a e e2 => by have := hrow _ e2; have := hA a e; omega), h.hG.grown hg (fun a e e2 => by have := hrow _ e2; have := hA' a e; omega)⟩
theorem RunS.more {m : Nat} (h : RunS l A A' c c' R n N I S b s w u) (hm : n ≤ m) : RunS l A A' c c' R m N I S b s w u := ⟨h.L, h.B, h.T, h.r.more hm, h.g, h.hW, h.hG⟩
end
theorem gr_set1 (w : World) (p : Addr) (v : Value) : w.grownBy (w.setCell p v) (some p.block) :=
  ⟨rfl, rfl, rfl, by simp, fun k hk hn => Below.heap_setCell w p v k (fun e => hn (by rw [e]))⟩
theorem Sl.far {α : Type} {w : World} {sz : Nat} {enc : α → List Value} {A : Option Addr} {n : Nat} {l : List α} {p : Addr} (h : Sl w sz enc A n l) (hA : ∀ a, A = some a → a.block ≠ p.block) (v : Value) : Sl (w.setCell p v) sz enc A n l :=
  h.grown (gr_set1 w p v) fun a e e2 => by injection e2 with e2; exact hA a e e2.symm
section
variable {l : Lev} {A A' : Option Addr} {c c' : Nat} {R n N I S : Nat} {b : Inp} {s : St} {w u u' : World}
theorem RunS.farX {p : Addr} (h : RunS l A A' c c' R n N I S b s w u) (hp : S < p.block) (h1 : N < S) (h2 : I < S) (h3 : R < S) (hs : w.heap.size ≤ S) (hA : ∀ a, A = some a → a.block < S) (hA' : ∀ a, A' = some a → a.block < S) (v : Value) : RunS l A A' c c' R n N I S b s w (u.setCell p v) :=
  h.own (gr_set1 u p v) (fun g e => by injection e with e; omega) h1 h2 h3 hs hA hA'
theorem RunS.setB (h : RunS l A A' c c' R n N I S b s w u) (x : Inp) (h1 : N < I) (h2 : I < S) (h3 : R < I) (hs : w.heap.size ≤ I) (hA : ∀ a, A = some a → a.block < I) (hA' : ∀ a, A' = some a → a.block < I) :
    RunS l A A' c c' R n N I S x s w (((u.setCell ⟨I, 0, none⟩ (.int .i64 x.s)).setCell ⟨I, 1, none⟩ (.int .i64 x.p)).setCell ⟨I, 2, none⟩ (.bool x.z)) := by
  have f1 := fun a e => Nat.ne_of_lt (hA a e)
  have f2 := fun a e => Nat.ne_of_lt (hA' a e)
  have f3 : N ≠ I := by omega
  have f4 : S ≠ I := by omega
  have hB := h.B
  exact ⟨((h.L.far f3 _).far f3 _).far f3 _, by (repeat first | (with_reducible first | assumption | exact kN _ _ _ (by simp) | refine kA ?_ _ | refine kD ?_ | refine kW ?_ _ | apply Bk.set' | refine kF ?_ (by simp <;> omega) _ | refine kL ?_ ‹_› | refine kG ?_ ‹_› (by first | omega | simp <;> omega)) | exact ⟨by with_reducible rfl⟩ | exact ⟨by simp⟩), ((h.T.far f4 _).far f4 _).far f4 _, ((h.r.far h3 _).far h3 _).far h3 _, gr_set hs (gr_set hs (gr_set hs h.g _) _) _, ((h.hW.far f1 _).far f1 _).far f1 _, ((h.hG.far f2 _).far f2 _).far f2 _⟩
theorem RunS.setT (h : RunS l A A' c c' R n N I S b s w u) (s2 : St) (h1 : N < I) (h2 : I < S) (h3 : R < S) (hs : w.heap.size ≤ S) (hA : ∀ a, A = some a → a.block < S) (hA' : ∀ a, A' = some a → a.block < S) :
    RunS l A A' c c' R n N I S b s2 w (((((((((u.setCell ⟨S, 0, none⟩ (.int .i64 s2.t)).setCell ⟨S, 1, none⟩ (.int .i64 s2.p.x)).setCell ⟨S, 2, none⟩ (.int .i64 s2.p.y)).setCell ⟨S, 3, none⟩ (.int .i64 s2.f.x)).setCell ⟨S, 4, none⟩ (.int .i64 s2.f.y)).setCell ⟨S, 5, none⟩ (.int .i64 s2.d)).setCell ⟨S, 6, none⟩ (.int .i64 s2.g)).setCell ⟨S, 7, none⟩ (.bool s2.dn)).setCell ⟨S, 8, none⟩ (.bool s2.ov)) := by
  have f1 := fun a e => Nat.ne_of_lt (hA a e)
  have f2 := fun a e => Nat.ne_of_lt (hA' a e)
  have f3 : N ≠ S := by omega
  have f4 : I ≠ S := by omega
  have hT := h.T
  exact ⟨(((((((((h.L.far f3 _).far f3 _).far f3 _).far f3 _).far f3 _).far f3 _).far f3 _).far f3 _).far f3 _), (((((((((h.B.far f4 _).far f4 _).far f4 _).far f4 _).far f4 _).far f4 _).far f4 _).far f4 _).far f4 _), by (repeat first | (with_reducible first | assumption | exact kN _ _ _ (by simp) | refine kA ?_ _ | refine kD ?_ | refine kW ?_ _ | apply Bk.set' | refine kF ?_ (by simp <;> omega) _ | refine kL ?_ ‹_› | refine kG ?_ ‹_› (by first | omega | simp <;> omega)) | exact ⟨by with_reducible rfl⟩ | exact ⟨by simp⟩), (((((((((h.r.far h3 _).far h3 _).far h3 _).far h3 _).far h3 _).far h3 _).far h3 _).far h3 _).far h3 _), (gr_set hs (gr_set hs (gr_set hs (gr_set hs (gr_set hs (gr_set hs (gr_set hs (gr_set hs (gr_set hs h.g _) _) _) _) _) _) _) _) _), (((((((((h.hW.far f1 _).far f1 _).far f1 _).far f1 _).far f1 _).far f1 _).far f1 _).far f1 _).far f1 _), (((((((((h.hG.far f2 _).far f2 _).far f2 _).far f2 _).far f2 _).far f2 _).far f2 _).far f2 _).far f2 _)⟩
end
theorem legal_none' {l : Lev} {ins : List Inp} (h : legal l ins < 0) : ∀ j, j < ins.length → badAt l ins j = false := by
  rcases legal_cases l ins with ⟨_, h1⟩ | ⟨k, _, h1, _⟩
  · exact h1
  · omega
theorem steer_legal {l : Lev} {ins : List Inp} (h : legal l ins < 0) : -1 ≤ steerOf ins ∧ steerOf ins ≤ 1 := by
  have := steer_bd (legal_none' h) (Nat.le_refl _)
  rwa [List.take_length] at this
theorem keepX {w : World} {g : Nat} {t : TypeId} {a b c : Value} (h : Bk w g t #[a, b, c]) : w.cell? ⟨g, 0, none⟩ = some a ∧ w.cell? ⟨g, 1, none⟩ = some b ∧ w.cell? ⟨g, 2, none⟩ = some c := ⟨h.cell 0, h.cell 1, h.cell 2⟩
def RetIns (P : List Inp → Prop) (R n : Nat) (w : World) (e : Ending) (w' : World) : Prop :=
  ∃ (ins : List Inp) (A : Option Addr) (c : Nat), e = .returned (.slice A ins.length c) ∧ P ins ∧ Own w' w.heap.size 68 3 encInp (.slice A ins.length c) ins ∧ RdL w' R n ∧ w.grownBy w' (some R)
set_option maxRecDepth 100000 in
set_option maxHeartbeats 4000000 in
theorem l92Run_any (l : Lev) (A A' : Option Addr) (c c' : Nat) (R n : Nat) (w : World) (h : RdL w R n) (hn : n ≤ 800000) (hl : LevD l) (hW : Sl w 4 encBx A l.walls.length l.walls) (hG : Sl w 4 encBx A' l.gates.length l.gates)
    (hA : ∀ a, A = some a → R < a.block ∧ a.block < w.heap.size) (hA' : ∀ a, A' = some a → R < a.block ∧ a.block < w.heap.size) :
    Calls Tryd.prog 74 #[.pointer (some ⟨R, 0, none⟩), .agg #[.int .i64 l.id, .int .i64 l.ticks, .int .i64 l.start.x, .int .i64 l.start.y, .slice A l.walls.length c, .slice A' l.gates.length c', .int .i64 l.fin.lo.x, .int .i64 l.fin.lo.y, .int .i64 l.fin.hi.x, .int .i64 l.fin.hi.y, .int .i64 l.bans]] w (RetIns (fun ins => legal l ins < 0) R (n + 200) w) := by
  have hRl := h.lt
  obtain ⟨i0, hi, hz0, hz1, hz2⟩ := info_parts Tryd.infoInp
  have g0 := hl.G.b0
  have g1 := hl.G.b1
  go_enter Tryd.func74, Tryd.ntmps74
  go_wp2_with fail
  refine (pick_n R n 40 _ (by (with_reducible repeat first | assumption | refine RdL.alloc ?_ _ | refine RdL.drew ?_ | refine RdL.drewN ?_ _ | refine RdL.far ?_ (by first | omega | simp <;> omega) _ | refine RdL.later ?_ ‹_›)) (by omega) (by omega) (by omega)).mono ?_
  rintro e w1 ⟨p1, rfl, p1_0, p1_1, hR1, hg1⟩
  have L1 : Bk w1 w.heap.size 87 #[.int .i64 l.id, .int .i64 l.ticks, .int .i64 l.start.x, .int .i64 l.start.y, .slice A l.walls.length c, .slice A' l.gates.length c', .int .i64 l.fin.lo.x, .int .i64 l.fin.lo.y, .int .i64 l.fin.hi.x, .int .i64 l.fin.hi.y, .int .i64 l.bans] := by (repeat first | (with_reducible first | assumption | exact kN _ _ _ (by simp) | refine kA ?_ _ | refine kD ?_ | refine kW ?_ _ | apply Bk.set' | refine kF ?_ (by simp <;> omega) _ | refine kL ?_ ‹_› | refine kG ?_ ‹_› (by first | omega | simp <;> omega)) | exact ⟨by with_reducible rfl⟩ | exact ⟨by simp⟩)
  have B1 : Bk w1 (w.heap.size + 1 + 1) 68 #[.int .i64 0, .int .i64 0, .bool false] := by (repeat first | (with_reducible first | assumption | exact kN _ _ _ (by simp) | refine kA ?_ _ | refine kD ?_ | refine kW ?_ _ | apply Bk.set' | refine kF ?_ (by simp <;> omega) _ | refine kL ?_ ‹_› | refine kG ?_ ‹_› (by first | omega | simp <;> omega)) | exact ⟨by with_reducible rfl⟩ | exact ⟨by simp⟩)
  have O1 : Own w1 (w.heap.size + 1) 68 3 encInp (.slice (some ⟨w.heap.size + 1, 0, none⟩) 0 0) [] := ((own_nil_inp (w.alloc (.cells #[.int .i64 l.id, .int .i64 l.ticks, .int .i64 l.start.x, .int .i64 l.start.y, .slice A l.walls.length c, .slice A' l.gates.length c', .int .i64 l.fin.lo.x, .int .i64 l.fin.lo.y, .int .i64 l.fin.hi.x, .int .i64 l.fin.hi.y, .int .i64 l.bans] 87)) (w.heap.size + 1) (w.heap.size + 1) 68 (by simp) (by simp)).alloc _).gk hg1 (by omega)
  have W1 := (((hW.below (below_alloc (Below.refl _ _) _)).below (below_alloc (Below.refl _ _) _)).below (below_alloc (Below.refl _ _) _)).grown hg1 (fun a e e2 => by injection e2 with e2; have := (hA a e).1; omega)
  have G1 := (((hG.below (below_alloc (Below.refl _ _) _)).below (below_alloc (Below.refl _ _) _)).below (below_alloc (Below.refl _ _) _)).grown hg1 (fun a e e2 => by injection e2 with e2; have := (hA' a e).1; omega)
  have hgr1 : w.grownBy w1 (some R) := by (with_reducible repeat first | assumption | exact grownBy_refl _ _ | refine gr_alloc ?_ _ | refine gr_set (by first | omega | simp <;> omega) ?_ _ | refine gr_drew ?_ | refine gr_drewN ?_ _ | refine gr_after ?_ ‹_› | refine gr_below ?_ ‹_›)
  have hsz1 := hg1.size
  have hRl1 := hR1.lt
  have Bz1 := B1.lt
  clear hg1 hW hG
  go_wp2_with fail
  refine (pick_n R (n + 1) 3 _ (by (with_reducible repeat first | assumption | refine RdL.alloc ?_ _ | refine RdL.drew ?_ | refine RdL.drewN ?_ _ | refine RdL.far ?_ (by first | omega | simp <;> omega) _ | refine RdL.later ?_ ‹_›)) (by omega) (by omega) (by omega)).mono ?_
  rintro e w2 ⟨p2, rfl, p2_0, p2_1, hR2, hg2⟩
  have L2 : Bk w2 w.heap.size 87 #[.int .i64 l.id, .int .i64 l.ticks, .int .i64 l.start.x, .int .i64 l.start.y, .slice A l.walls.length c, .slice A' l.gates.length c', .int .i64 l.fin.lo.x, .int .i64 l.fin.lo.y, .int .i64 l.fin.hi.x, .int .i64 l.fin.hi.y, .int .i64 l.bans] := by (repeat first | (with_reducible first | assumption | exact kN _ _ _ (by simp) | refine kA ?_ _ | refine kD ?_ | refine kW ?_ _ | apply Bk.set' | refine kF ?_ (by simp <;> omega) _ | refine kL ?_ ‹_› | refine kG ?_ ‹_› (by first | omega | simp <;> omega)) | exact ⟨by with_reducible rfl⟩ | exact ⟨by simp⟩)
  have B2 : Bk w2 (w.heap.size + 1 + 1) 68 #[.int .i64 0, .int .i64 0, .bool false] := by (repeat first | (with_reducible first | assumption | exact kN _ _ _ (by simp) | refine kA ?_ _ | refine kD ?_ | refine kW ?_ _ | apply Bk.set' | refine kF ?_ (by simp <;> omega) _ | refine kL ?_ ‹_› | refine kG ?_ ‹_› (by first | omega | simp <;> omega)) | exact ⟨by with_reducible rfl⟩ | exact ⟨by simp⟩)
  have O2 : Own w2 (w.heap.size + 1) 68 3 encInp (.slice (some ⟨w.heap.size + 1, 0, none⟩) 0 0) [] := O1.gk hg2 (by omega)
  have W2 := W1.grown hg2 (fun a e e2 => by injection e2 with e2; have := (hA a e).1; omega)
  have G2 := G1.grown hg2 (fun a e e2 => by injection e2 with e2; have := (hA' a e).1; omega)
  have hgr2 : w.grownBy w2 (some R) := by (with_reducible repeat first | assumption | exact grownBy_refl _ _ | refine gr_alloc ?_ _ | refine gr_set (by first | omega | simp <;> omega) ?_ _ | refine gr_drew ?_ | refine gr_drewN ?_ _ | refine gr_after ?_ ‹_› | refine gr_below ?_ ‹_›)
  have hsz2 := hgr2.size
  have hRl2 := hR2.lt
  have Bz2 := B2.lt
  have Lz2 := L2.lt
  clear hg2 L1 B1 O1 W1 G1 hgr1 hR1 hsz1 Bz1 hRl1
  go_upto_if 18 with fail
  go_cut [7] from 17 to 18 (fun nv wc => wc = w2 ∧ ∃ m : Nat, nv = .int .i64 m ∧ m ≤ 60)
  case first =>
    obtain ⟨m, rfl⟩ := Int.eq_ofNat_of_zero_le p1_0
    go_wp2
    all_goals go_meet
    · exact ⟨rfl, 60, rfl, by omega⟩
    · exact ⟨rfl, m, rfl, by omega⟩
  case rest =>
    obtain ⟨hwc, m, rfl, hm⟩ := hcut
    rw [hwc]
    obtain ⟨⟨l0, l1, l2, l3, l4, l5, l6, l7, l8, l9, l10⟩, lf⟩ := L2.c11
    go_wp2_with fail
    refine (l13Start_any l _ _ _ _ _).mono ?_
    rintro e w3 ⟨rfl, hb3⟩
    have hs3 := hb3.size
    obtain ⟨S, hS⟩ : ∃ S, w3.heap.size = S := ⟨_, rfl⟩
    have S3 : RunS l A A' c c' R (n + 2) w.heap.size (w.heap.size + 1 + 1) S ⟨0, 0, false⟩ (st0 l) w (w3.alloc (.cells #[.int .i64 (st0 l).t, .int .i64 (st0 l).p.x, .int .i64 (st0 l).p.y, .int .i64 (st0 l).f.x, .int .i64 (st0 l).f.y, .int .i64 (st0 l).d, .int .i64 (st0 l).g, .bool (st0 l).dn, .bool (st0 l).ov] 132)) := ⟨(L2.later hb3).alloc _, (B2.later hb3).alloc _, Bk.new _ _ _ hS, (hR2.later hb3).alloc _, gr_alloc (gr_below hgr2 hb3) _, (W2.below hb3).below (below_alloc (Below.refl _ _) _), (G2.below hb3).below (below_alloc (Below.refl _ _) _)⟩
    have O3 := (O2.later hb3).alloc (.cells #[.int .i64 (st0 l).t, .int .i64 (st0 l).p.x, .int .i64 (st0 l).p.y, .int .i64 (st0 l).f.x, .int .i64 (st0 l).f.y, .int .i64 (st0 l).d, .int .i64 (st0 l).g, .bool (st0 l).dn, .bool (st0 l).ov] 132)
    clear L2 B2 O2 W2 G2 hgr2 hR2 hb3 l0 l1 l2 l3 l4 l5 l6 l7 l8 l9 l10 lf
    have HS := Lib.hid hS
    have hIS : w.heap.size + 1 + 1 < S := by omega
    have hzS : (w3.alloc (.cells #[.int .i64 (st0 l).t, .int .i64 (st0 l).p.x, .int .i64 (st0 l).p.y, .int .i64 (st0 l).f.x, .int .i64 (st0 l).f.y, .int .i64 (st0 l).d, .int .i64 (st0 l).g, .bool (st0 l).dn, .bool (st0 l).ov] 132)).heap.size = S + 1 := by simp [hS]
    go_wp2
    go_loopg [5, 9] m (fun q v i wr => ∃ (k : Nat) (out : List Inp) (b : Inp), q = m - k ∧ k ≤ m ∧ i = .int .i64 k ∧ out.length = k ∧ legal l out < 0 ∧ b.s = steerOf out ∧ Own wr (w.heap.size + 1) 68 3 encInp v out ∧ (∀ g, v.ownBlock = some g → g ≠ w.heap.size + 1 + 1 ∧ g ≠ S) ∧ RunS l A A' c c' R (n + 2 + 3 * k) w.heap.size (w.heap.size + 1 + 1) S b (runTo l out k) w wr ∧ S < wr.heap.size)
    case atStart => exact ⟨0, [], ⟨0, 0, false⟩, rfl, Nat.zero_le _, rfl, rfl, by simp [legal], rfl, O3, fun g e => by simp only [Value.ownBlock, Option.some.injEq] at e; omega, S3, by omega⟩
    case round =>
      obtain ⟨k, out, b, hq, hk, rfl, hlen, hleg, hbs, hO, hOne, hS, hSz⟩ := hrel
      clear S3 O3 hzS
      obtain ⟨Av, cv, rfl, hcv, _⟩ := hO.form
      obtain ⟨⟨l0, l1, l2, l3, l4, l5, l6, l7, l8, l9, l10⟩, lf⟩ := hS.L.c11
      have zL := hS.L.lt; have zB := hS.B.lt; have zR := hS.r.lt
      have hol : out.length ≤ 60 := by omega
      have Hq := Lib.hid hq; have Hlen := Lib.hid hlen; have Hleg := Lib.hid hleg; have Hbs := Lib.hid hbs
      have hsb := steer_legal hleg
      rw [← hbs] at hsb
      clear hq hlen hleg hbs
      by_cases hlt : k < m
      · by_cases hlt2 : (k : Int) < l.ticks
        · obtain ⟨⟨b0, b1, b2⟩, bf⟩ := hS.B.c3
          go_wp2_with fail
          refine (l92Next_any l b _ _ _ _ R (n + 2 + 3 * k) _ hS.r (by omega) g0 g1 hsb).mono ?_
          rintro e w5 ⟨x, rfl, hx, hR5, hg5⟩
          have S5 := hS.rd hg5 hR5 (by omega) (by omega) (by omega) (fun a e => (hA a e).1) (fun a e => (hA' a e).1)
          have O5 := hO.gk hg5 (by omega)
          have hz5 := hg5.size
          have Hx := Lib.hid hx
          clear hS hO hg5 hR5 b0 b1 b2 bf l0 l1 l2 l3 l4 l5 l6 l7 l8 l9 l10 lf hx
          obtain ⟨xs, xp, xz⟩ := x
          obtain ⟨X, hX⟩ : ∃ X, w5.heap.size = X := ⟨_, rfl⟩
          have HX := Lib.hid hX
          have hSX : S < X := by omega
          have hOX : ∀ g, (Value.slice Av out.length cv).ownBlock = some g → g < X := fun g e => by have := (O5.lt g e).2; omega
          have hnc := O5.none_cap
          go_upto_region 11 with fail
          go_cut [11] from 21 to 66 (fun nv wc => ∃ (A1 : Option Addr) (c1 : Nat) (nx : List Inp), nx = out ++ [⟨xs, xp, xz⟩] ∧ nv = .slice A1 nx.length c1 ∧ Own wc (X + 1) 68 3 encInp (.slice A1 nx.length c1) nx ∧ RunS l A A' c c' R (n + 2 + 3 * k + 3) w.heap.size (w.heap.size + 1 + 1) S b (runTo l out k) w wc ∧ Own wc (w.heap.size + 1) 68 3 encInp (.slice Av out.length cv) out ∧ Bk wc X 68 #[.int .i64 xs, .int .i64 xp, .bool xz] ∧ X < wc.heap.size)
          case first =>
            refine wp_world (fun u => RunS l A A' c c' R (n + 2 + 3 * k + 3) w.heap.size (w.heap.size + 1 + 1) S b (runTo l out k) w u ∧ Own u (w.heap.size + 1) 68 3 encInp (.slice Av out.length cv) out ∧ Bk u X 68 #[.int .i64 xs, .int .i64 xp, .bool xz] ∧ u.heap.size = X + 1) ⟨S5.alloc _, O5.alloc _, Bk.new _ _ _ hX, by simp [hX]⟩ ?_
            rintro w6 ⟨S6, O6, X6, hz6⟩
            clear S5 O5
            go_region_held3 (fun w' => w'.cell? ⟨X, 0, none⟩ = some (.int .i64 xs) ∧ w'.cell? ⟨X, 1, none⟩ = some (.int .i64 xp) ∧ w'.cell? ⟨X, 2, none⟩ = some (.bool xz))
            (first | (with_reducible exact keepX X6.drew) | (with_reducible exact keepX (X6.alloc _).drew) | (with_reducible exact keepX ((X6.alloc _).alloc _).drew) | (with_reducible exact keepX X8) | (with_reducible exact keepX (X8.alloc _)) | (with_reducible exact keepX X9))
            (first
            | (refine step_appL rfl (.tmp 36) (.tmp 37) _ rfl (X + 1) 68 i0 (.agg #[.int .i64 0, .int .i64 0, .bool false]) 3 24 Tryd.underlying28 hi hz0 hz1 hz2 rfl (by decide) encInp_len one_inp _ [] out (by first | (simp [Act.eval]; done) | (simp [Act.eval]; rfl)) (by first | exact (own_nil_inp _ _ _ _ (by first | omega | (simp; done) | (simp; omega)) (by first | omega | (simp; done) | (simp; omega))).drew | exact ((own_nil_inp _ _ _ _ (by first | omega | (simp; done) | (simp; omega)) (by first | omega | (simp; done) | (simp; omega))).alloc _).drew) Av out.length cv (by first | (simp [Act.eval]; done) | (simp [Act.eval]; rfl)) (by first | exact ((O6.sl' encInp_len).below (below_alloc (Below.refl _ _) _)).drew | exact (((O6.sl' encInp_len).below (below_alloc (Below.refl _ _) _)).below (below_alloc (Below.refl _ _) _)).drew) hnc (by have e0 : ([] : List Inp).length = 0 := rfl; unfold maxLen; omega) (by have e0 : ([] : List Inp).length = 0 := rfl; omega) (by first | omega | (simp; done) | (simp; omega)) ?_; intro v8 w8 O8 hg8 hl8; rw [List.nil_append] at O8; obtain ⟨A8, c8, rfl, hc8, _⟩ := O8.form; have hz8 : X + 1 ≤ w8.heap.size := (by have := hg8.size; simp at this; omega); have X8 : Bk w8 X 68 #[.int .i64 xs, .int .i64 xp, .bool xz] := (by first | exact (X6.alloc _).drew.grown hg8 (by simp only [Value.ownBlock]; intro e; injection e with e; omega) | exact ((X6.alloc _).alloc _).drew.grown hg8 (by simp only [Value.ownBlock]; intro e; injection e with e; omega)); have S8 : RunS l A A' c c' R (n + 2 + 3 * k + 3) w.heap.size (w.heap.size + 1 + 1) S b (runTo l out k) w w8 := (by first | exact (S6.alloc _).drew.own hg8 (fun g e => by simp only [Value.ownBlock, Option.some.injEq] at e; omega) (by omega) (by omega) (by omega) (by omega) (fun a e => by have := (hA a e).2; omega) (fun a e => by have := (hA' a e).2; omega) | exact ((S6.alloc _).alloc _).drew.own hg8 (fun g e => by simp only [Value.ownBlock, Option.some.injEq] at e; omega) (by omega) (by omega) (by omega) (by omega) (fun a e => by have := (hA a e).2; omega) (fun a e => by have := (hA' a e).2; omega)); have P8 : Own w8 (w.heap.size + 1) 68 3 encInp (.slice Av out.length cv) out := (by first | exact (O6.alloc _).drew.keptN hg8 (fun g e e2 => by simp only [Value.ownBlock, Option.some.injEq] at e2; have := hOX g e; omega) | exact ((O6.alloc _).alloc _).drew.keptN hg8 (fun g e e2 => by simp only [Value.ownBlock, Option.some.injEq] at e2; have := hOX g e; omega)))
            | (refine step_appL rfl (.tmp 38) (.tmp 40) _ rfl (X + 1) 68 i0 (.agg #[.int .i64 0, .int .i64 0, .bool false]) 3 24 Tryd.underlying28 hi hz0 hz1 hz2 rfl (by decide) encInp_len one_inp _ out [⟨xs, xp, xz⟩] (by first | (simp [Act.eval]; done) | (simp [Act.eval]; rfl)) (by first | exact O8 | exact O8.alloc _) _ 1 1 (by first | (simp [Act.eval]; done) | (simp [Act.eval]; rfl)) (by first | exact Sl.one_at _ _ _ _ (by rfl) (by first | rfl | omega | (simp; done) | (simp; omega)) | (refine Sl.grown (Sl.drew (by exact Sl.one_at _ _ _ _ (by rfl) (by first | rfl | omega | (simp; done) | (simp; omega)))) hg8 ?_; (intro a e e2; cases e; exact absurd (Option.some.inj e2) (by first | (simp; done) | (simp; omega) | omega))) | (refine Sl.grown (Sl.drew (Sl.below (by exact Sl.one_at _ _ _ _ (by rfl) (by first | rfl | omega | (simp; done) | (simp; omega))) (below_alloc (Below.refl _ _) _))) hg8 ?_; (intro a e e2; cases e; exact absurd (Option.some.inj e2) (by first | (simp; done) | (simp; omega) | omega)))) (by intro e; cases e) (by unfold maxLen; omega) (by omega) (by first | omega | (simp; done) | (simp; omega)) ?_; intro v9 w9 O9 hg9 hl9; obtain ⟨A9, c9, hv9, hc9, _⟩ := O9.form; rw [List.length_append, List.length_singleton] at hv9; subst hv9; have X9 : Bk w9 X 68 #[.int .i64 xs, .int .i64 xp, .bool xz] := (by first | exact X8.grown hg9 (by intro e; have := (O8.lt _ e.symm).1; omega) | exact (X8.alloc _).grown hg9 (by intro e; have := (O8.lt _ e.symm).1; omega))))
            all_goals
              have S9 : RunS l A A' c c' R (n + 2 + 3 * k + 3) w.heap.size (w.heap.size + 1 + 1) S b (runTo l out k) w w9 := (by first | exact S8.own hg9 (fun g e => by have := (O8.lt g e).1; omega) (by omega) (by omega) (by omega) (by omega) (fun a e => by have := (hA a e).2; omega) (fun a e => by have := (hA' a e).2; omega) | exact (S8.alloc _).own hg9 (fun g e => by have := (O8.lt g e).1; omega) (by omega) (by omega) (by omega) (by omega) (fun a e => by have := (hA a e).2; omega) (fun a e => by have := (hA' a e).2; omega))
              have P9 : Own w9 (w.heap.size + 1) 68 3 encInp (.slice Av out.length cv) out := (by first | exact P8.keptN hg9 (fun g e e2 => by have := (O8.lt g e2).1; have := hOX g e; omega) | exact (P8.alloc _).keptN hg9 (fun g e e2 => by have := (O8.lt g e2).1; have := hOX g e; omega))
              have Q9 : Own w9 (X + 1) 68 3 encInp (.slice A9 (out ++ [(⟨xs, xp, xz⟩ : Inp)]).length c9) (out ++ [(⟨xs, xp, xz⟩ : Inp)]) := by rw [List.length_append]; exact O9
              clear S8 P8 O8 X8 hg8 hl8 hl9 hg9 S6 O6 X6
              go_wp2_with fail
              go_meet
              exact ⟨A9, c9, _, rfl, by rw [List.length_append]; rfl, Q9, S9, P9, X9, X9.lt⟩
          case rest =>
            obtain ⟨A1, c1, nx, hnx, rfl, O9, S9, P9, X9, hzX⟩ := hcut
            have hnl : nx.length ≤ 61 := by rw [hnx, List.length_append]; simp; omega
            have Hnx := Lib.hid hnx; clear hnx S5 O5 hX hz5
            obtain ⟨⟨l0, l1, l2, l3, l4, l5, l6, l7, l8, l9, l10⟩, lf⟩ := S9.L.c11; obtain ⟨⟨x0, x1, x2⟩, xf⟩ := X9.c3
            have zL9 := S9.L.lt; have zX9 := X9.lt
            go_wp2_with fail
            refine (l12Legal_any l nx _ _ _ _ _ _ _ (O9.sl' encInp_len) (by omega) g0 g1).mono ?_
            rintro e w10 ⟨rfl, hb10⟩
            have S10 := S9.below hb10; have O10 := O9.later hb10; have P10 := P9.later hb10; have X10 := X9.later hb10; have hz10 := hb10.size
            clear S9 O9 P9 X9 hb10 l0 l1 l2 l3 l4 l5 l6 l7 l8 l9 l10 lf x0 x1 x2 xf zL9 zX9
            obtain ⟨⟨x0, x1, x2⟩, xf⟩ := X10.c3
            have zX10 := X10.lt
            go_upto_if 45 with fail
            go_cut [11] from 21 to 66 (fun nv wc => ∃ (ys yp : Int) (yz : Bool), inpOk ⟨ys, yp, yz⟩ = true ∧ ∃ (A1 : Option Addr) (c1 : Nat) (nx : List Inp), nx = out ++ [⟨ys, yp, yz⟩] ∧ nv = .slice A1 nx.length c1 ∧ Own wc (X + 1) 68 3 encInp (.slice A1 nx.length c1) nx ∧ RunS l A A' c c' R (n + 2 + 3 * k + 3) w.heap.size (w.heap.size + 1 + 1) S b (runTo l out k) w wc ∧ Own wc (w.heap.size + 1) 68 3 encInp (.slice Av out.length cv) out ∧ Bk wc X 68 #[.int .i64 ys, .int .i64 yp, .bool yz] ∧ X < wc.heap.size)
            case first =>
              by_cases hlg : legal l nx < 0
              · have hlg2 : ¬ (0 ≤ legal l nx) := by omega
                go_wp2_with fail
                go_meet
                exact ⟨xs, xp, xz, Hx.out, A1, c1, nx, Hnx.out, rfl, O10, S10, P10, X10, X10.lt⟩
              · have hlg2 : 0 ≤ legal l nx := by omega
                go_upto_region 14 with fail
                obtain ⟨H, hH⟩ : ∃ H, w10.heap.size = H := ⟨_, rfl⟩
                have hXH : X < H := by omega
                have hOXn := fun g e => Nat.ne_of_lt (hOX g e)
                refine wp_world (fun u => RunS l A A' c c' R (n + 2 + 3 * k + 3) w.heap.size (w.heap.size + 1 + 1) S b (runTo l out k) w u ∧ Own u (w.heap.size + 1) 68 3 encInp (.slice Av out.length cv) out ∧ Bk u X 68 #[.int .i64 0, .int .i64 0, .bool false] ∧ u.heap.size = H) ⟨(((S10.farX hSX (by omega) (by omega) (by omega) (by omega) (fun a e => by have := (hA a e).2; omega) (fun a e => by have := (hA' a e).2; omega) _).farX hSX (by omega) (by omega) (by omega) (by omega) (fun a e => by have := (hA a e).2; omega) (fun a e => by have := (hA' a e).2; omega) _).farX hSX (by omega) (by omega) (by omega) (by omega) (fun a e => by have := (hA a e).2; omega) (fun a e => by have := (hA' a e).2; omega) _), (((P10.fars hOXn _).fars hOXn _).fars hOXn _), (by (repeat first | (with_reducible first | assumption | exact kN _ _ _ (by simp) | refine kA ?_ _ | refine kD ?_ | refine kW ?_ _ | apply Bk.set' | refine kF ?_ (by simp <;> omega) _ | refine kL ?_ ‹_› | refine kG ?_ ‹_› (by first | omega | simp <;> omega)) | exact ⟨by with_reducible rfl⟩ | exact ⟨by simp⟩)), by simp [hH]⟩ ?_
                rintro w6 ⟨S6, O6, X6, hz6⟩
                clear S10 O10 P10 X10 hz10 zX10 x0 x1 x2 xf hH hzX
                go_region_held3 (fun w' => w'.cell? ⟨X, 0, none⟩ = some (.int .i64 0) ∧ w'.cell? ⟨X, 1, none⟩ = some (.int .i64 0) ∧ w'.cell? ⟨X, 2, none⟩ = some (.bool false))
            (first | (with_reducible exact keepX X6.drew) | (with_reducible exact keepX (X6.alloc _).drew) | (with_reducible exact keepX ((X6.alloc _).alloc _).drew) | (with_reducible exact keepX X8) | (with_reducible exact keepX (X8.alloc _)) | (with_reducible exact keepX X9))
            (first
            | (refine step_appL rfl (.tmp 47) (.tmp 48) _ rfl (X + 1) 68 i0 (.agg #[.int .i64 0, .int .i64 0, .bool false]) 3 24 Tryd.underlying28 hi hz0 hz1 hz2 rfl (by decide) encInp_len one_inp _ [] out (by first | (simp [Act.eval]; done) | (simp [Act.eval]; rfl)) (by first | exact (own_nil_inp _ _ _ _ (by first | omega | (simp; done) | (simp; omega)) (by first | omega | (simp; done) | (simp; omega))).drew | exact ((own_nil_inp _ _ _ _ (by first | omega | (simp; done) | (simp; omega)) (by first | omega | (simp; done) | (simp; omega))).alloc _).drew) Av out.length cv (by first | (simp [Act.eval]; done) | (simp [Act.eval]; rfl)) (by first | exact ((O6.sl' encInp_len).below (below_alloc (Below.refl _ _) _)).drew | exact (((O6.sl' encInp_len).below (below_alloc (Below.refl _ _) _)).below (below_alloc (Below.refl _ _) _)).drew) hnc (by have e0 : ([] : List Inp).length = 0 := rfl; unfold maxLen; omega) (by have e0 : ([] : List Inp).length = 0 := rfl; omega) (by first | omega | (simp; done) | (simp; omega)) ?_; intro v8 w8 O8 hg8 hl8; rw [List.nil_append] at O8; obtain ⟨A8, c8, rfl, hc8, _⟩ := O8.form; have hz8 : X + 1 ≤ w8.heap.size := (by have := hg8.size; simp at this; omega); have X8 : Bk w8 X 68 #[.int .i64 0, .int .i64 0, .bool false] := (by first | exact (X6.alloc _).drew.grown hg8 (by simp only [Value.ownBlock]; intro e; injection e with e; omega) | exact ((X6.alloc _).alloc _).drew.grown hg8 (by simp only [Value.ownBlock]; intro e; injection e with e; omega)); have S8 : RunS l A A' c c' R (n + 2 + 3 * k + 3) w.heap.size (w.heap.size + 1 + 1) S b (runTo l out k) w w8 := (by first | exact (S6.alloc _).drew.own hg8 (fun g e => by simp only [Value.ownBlock, Option.some.injEq] at e; omega) (by omega) (by omega) (by omega) (by omega) (fun a e => by have := (hA a e).2; omega) (fun a e => by have := (hA' a e).2; omega) | exact ((S6.alloc _).alloc _).drew.own hg8 (fun g e => by simp only [Value.ownBlock, Option.some.injEq] at e; omega) (by omega) (by omega) (by omega) (by omega) (fun a e => by have := (hA a e).2; omega) (fun a e => by have := (hA' a e).2; omega)); have P8 : Own w8 (w.heap.size + 1) 68 3 encInp (.slice Av out.length cv) out := (by first | exact (O6.alloc _).drew.keptN hg8 (fun g e e2 => by simp only [Value.ownBlock, Option.some.injEq] at e2; have := hOX g e; omega) | exact ((O6.alloc _).alloc _).drew.keptN hg8 (fun g e e2 => by simp only [Value.ownBlock, Option.some.injEq] at e2; have := hOX g e; omega)))
            | (refine step_appL rfl (.tmp 49) (.tmp 51) _ rfl (X + 1) 68 i0 (.agg #[.int .i64 0, .int .i64 0, .bool false]) 3 24 Tryd.underlying28 hi hz0 hz1 hz2 rfl (by decide) encInp_len one_inp _ out [⟨0, 0, false⟩] (by first | (simp [Act.eval]; done) | (simp [Act.eval]; rfl)) (by first | exact O8 | exact O8.alloc _) _ 1 1 (by first | (simp [Act.eval]; done) | (simp [Act.eval]; rfl)) (by first | exact Sl.one_at _ _ _ _ (by rfl) (by first | rfl | omega | (simp; done) | (simp; omega)) | (refine Sl.grown (Sl.drew (by exact Sl.one_at _ _ _ _ (by rfl) (by first | rfl | omega | (simp; done) | (simp; omega)))) hg8 ?_; (intro a e e2; cases e; exact absurd (Option.some.inj e2) (by first | (simp; done) | (simp; omega) | omega))) | (refine Sl.grown (Sl.drew (Sl.below (by exact Sl.one_at _ _ _ _ (by rfl) (by first | rfl | omega | (simp; done) | (simp; omega))) (below_alloc (Below.refl _ _) _))) hg8 ?_; (intro a e e2; cases e; exact absurd (Option.some.inj e2) (by first | (simp; done) | (simp; omega) | omega)))) (by intro e; cases e) (by unfold maxLen; omega) (by omega) (by first | omega | (simp; done) | (simp; omega)) ?_; intro v9 w9 O9 hg9 hl9; obtain ⟨A9, c9, hv9, hc9, _⟩ := O9.form; rw [List.length_append, List.length_singleton] at hv9; subst hv9; have X9 : Bk w9 X 68 #[.int .i64 0, .int .i64 0, .bool false] := (by first | exact X8.grown hg9 (by intro e; have := (O8.lt _ e.symm).1; omega) | exact (X8.alloc _).grown hg9 (by intro e; have := (O8.lt _ e.symm).1; omega))))
                all_goals
                  have S9 : RunS l A A' c c' R (n + 2 + 3 * k + 3) w.heap.size (w.heap.size + 1 + 1) S b (runTo l out k) w w9 := (by first | exact S8.own hg9 (fun g e => by have := (O8.lt g e).1; omega) (by omega) (by omega) (by omega) (by omega) (fun a e => by have := (hA a e).2; omega) (fun a e => by have := (hA' a e).2; omega) | exact (S8.alloc _).own hg9 (fun g e => by have := (O8.lt g e).1; omega) (by omega) (by omega) (by omega) (by omega) (fun a e => by have := (hA a e).2; omega) (fun a e => by have := (hA' a e).2; omega))
                  have P9 : Own w9 (w.heap.size + 1) 68 3 encInp (.slice Av out.length cv) out := (by first | exact P8.keptN hg9 (fun g e e2 => by have := (O8.lt g e2).1; have := hOX g e; omega) | exact (P8.alloc _).keptN hg9 (fun g e e2 => by have := (O8.lt g e2).1; have := hOX g e; omega))
                  have Q9 : Own w9 (X + 1) 68 3 encInp (.slice A9 (out ++ [(⟨0, 0, false⟩ : Inp)]).length c9) (out ++ [(⟨0, 0, false⟩ : Inp)]) := by rw [List.length_append]; exact O9
                  clear S8 P8 O8 X8 hg8 hl8 hl9 hg9 S6 O6 X6
                  go_wp2_with fail
                  go_meet
                  exact ⟨0, 0, false, rfl, A9, c9, _, rfl, by rw [List.length_append]; rfl, Q9, S9, P9, X9, X9.lt⟩
            case rest =>
              obtain ⟨ys, yp, yz, hy, A2, c2, ny, hny, rfl, O11, S11, P11, X11, hzX2⟩ := hcut
              have hnl2 : ny.length = k + 1 := by rw [hny, List.length_append, Hlen.out]; rfl
              have Hny := Lib.hid hny; have Hnl2 := Lib.hid hnl2; have hnb2 : ny.length ≤ 61 := by omega
              have Hy := Lib.hid hy
              have hys := inpOk_s hy
              clear hny hnl2 hy S10 O10 P10 X10 hz10 zX10 x0 x1 x2 xf
              obtain ⟨⟨l0, l1, l2, l3, l4, l5, l6, l7, l8, l9, l10⟩, lf⟩ := S11.L.c11
              have zL11 := S11.L.lt
              go_wp2_with fail
              refine (l12Legal_any l ny _ _ _ _ _ _ _ (O11.sl' encInp_len) (by omega) g0 g1).mono ?_
              rintro e w12 ⟨rfl, hb12⟩
              have S12 := S11.below hb12; have O12 := O11.later hb12; have P12 := P11.later hb12; have X12 := X11.later hb12; have hz12 := hb12.size
              clear S11 O11 P11 X11 hb12 l0 l1 l2 l3 l4 l5 l6 l7 l8 l9 l10 lf zL11
              by_cases hlg : legal l ny < 0
              · have hlg2 : ¬ (0 ≤ legal l ny) := by omega
                have hO2 : ∀ g, (Value.slice A2 ny.length c2).ownBlock = some g → X + 1 ≤ g := fun g e => (O12.lt g e).1
                have hO2I : ∀ g, (Value.slice A2 ny.length c2).ownBlock = some g → g ≠ w.heap.size + 1 + 1 := fun g e => by have := hO2 g e; omega
                have hO2S : ∀ g, (Value.slice A2 ny.length c2).ownBlock = some g → g ≠ S := fun g e => by have := hO2 g e; omega
                have SB := S12.setB ⟨ys, yp, yz⟩ (by omega) (by omega) (by omega) (by omega) (fun a e => by have := (hA a e).2; omega) (fun a e => by have := (hA' a e).2; omega)
                have OB := ((O12.fars (p := ⟨w.heap.size + 1 + 1, 0, none⟩) hO2I (.int .i64 ys)).fars (p := ⟨w.heap.size + 1 + 1, 1, none⟩) hO2I (.int .i64 yp)).fars (p := ⟨w.heap.size + 1 + 1, 2, none⟩) hO2I (.bool yz)
                have hst := runTo_ok out k hl.G.st
                have htt := runTo_t l out k (by rw [Hlen.out]; exact Nat.le_refl _)
                have htb : 0 ≤ (runTo l out k).t ∧ (runTo l out k).t ≤ 1000000 := by omega
                obtain ⟨ht0, ht1⟩ := htb
                clear htt
                obtain ⟨⟨l0, l1, l2, l3, l4, l5, l6, l7, l8, l9, l10⟩, lf⟩ := S12.L.c11; obtain ⟨⟨b0, b1, b2⟩, bf⟩ := S12.B.c3; obtain ⟨⟨t0, t1, t2, t3, t4, t5, t6, t7, t8⟩, tf⟩ := S12.T.c9; obtain ⟨⟨x0, x1, x2⟩, xf⟩ := X12.c3
                have zL := S12.L.lt; have zB := S12.B.lt; have zT := S12.T.lt; have zX := X12.lt
                go_wp2_with fail
                refine (l13Step_any l (runTo l out k) ⟨ys, yp, yz⟩ _ _ _ _ _ SB.hW SB.hG (by have := hl.nw; omega) hl.G.w hst (by have := hl.ng; omega) ht0 ht1 hys).mono ?_
                have Hs2 : Hid (stepS l (runTo l out k) ⟨ys, yp, yz⟩ = runTo l ny (k + 1)) := Lib.hid (by have e := runTo_snoc l out ⟨ys, yp, yz⟩; rw [← Hny.out, Hnl2.out, Hlen.out] at e; exact e.symm)
                generalize stepS l (runTo l out k) ⟨ys, yp, yz⟩ = s2 at *
                rintro e w13 ⟨rfl, hb13⟩
                have S13 := SB.below hb13; have O13 := OB.later hb13
                clear S12 O12 P12 X12 SB OB hb13 l0 l1 l2 l3 l4 l5 l6 l7 l8 l9 l10 lf b0 b1 b2 bf t0 t1 t2 t3 t4 t5 t6 t7 t8 tf x0 x1 x2 xf zL zB zT zX hst ht0 ht1
                have ST := S13.setT s2 (by omega) (by omega) (by omega) (by omega) (fun a e => by have := (hA a e).2; omega) (fun a e => by have := (hA' a e).2; omega)
                have OT := (((((((((O13.fars (p := ⟨S, 0, none⟩) hO2S (.int .i64 s2.t)).fars (p := ⟨S, 1, none⟩) hO2S (.int .i64 s2.p.x)).fars (p := ⟨S, 2, none⟩) hO2S (.int .i64 s2.p.y)).fars (p := ⟨S, 3, none⟩) hO2S (.int .i64 s2.f.x)).fars (p := ⟨S, 4, none⟩) hO2S (.int .i64 s2.f.y)).fars (p := ⟨S, 5, none⟩) hO2S (.int .i64 s2.d)).fars (p := ⟨S, 6, none⟩) hO2S (.int .i64 s2.g)).fars (p := ⟨S, 7, none⟩) hO2S (.bool s2.dn)).fars (p := ⟨S, 8, none⟩) hO2S (.bool s2.ov))
                obtain ⟨⟨t0, t1, t2, t3, t4, t5, t6, t7, t8⟩, tf⟩ := S13.T.c9
                have zT := S13.T.lt
                have hz13 : S < w13.heap.size := zT
                cases hdn : s2.dn
                · simp only [hdn] at ST OT
                  go_wp2
                  go_roundg (m - (k + 1))
                  case measure => have := Hq.out; omega
                  case rel =>
                    refine ⟨k + 1, ny, ⟨ys, yp, yz⟩, rfl, by omega, by go_num, Hnl2.out, hlg, by rw [Hny.out, steerOf_snoc], OT.mono (by omega), (fun g e => ⟨hO2I g e, hO2S g e⟩), ?_, by simp; omega⟩
                    rw [← Hs2.out]
                    exact ST.more (by omega)
                · simp only [hdn] at ST OT
                  go_wp2
                  exact bodyPost_ret (v := .slice A2 ny.length c2) (by simp [results, Tryd.results74, go_sem]) rfl ⟨ny, A2, c2, rfl, hlg, OT.mono (by omega), ST.r.more (by omega), ST.g⟩
              · have hlg2 : 0 ≤ legal l ny := by omega
                go_wp2
                exact bodyPost_ret (v := .slice Av out.length cv) (by simp [results, Tryd.results74, go_sem]) rfl ⟨out, Av, cv, rfl, Hleg.out, P12.mono (by omega), S12.r.more (by omega), S12.g⟩
        · go_wp2
          exact bodyPost_ret (v := .slice Av out.length cv) (by simp [results, Tryd.results74, go_sem]) rfl ⟨out, Av, cv, rfl, Hleg.out, hO.mono (by omega), hS.r.more (by omega), hS.g⟩
      · go_wp2
        exact bodyPost_ret (v := .slice Av out.length cv) (by simp [results, Tryd.results74, go_sem]) rfl ⟨out, Av, cv, rfl, Hleg.out, hO.mono (by omega), hS.r.more (by omega), hS.g⟩
end Go.Proofs.YtdpoicfciogfnaaDoor
