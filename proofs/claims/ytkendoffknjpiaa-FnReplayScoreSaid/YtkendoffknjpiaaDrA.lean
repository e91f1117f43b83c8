/- Draws of inputs: l91Input, l92Next. Printed by gen/dr1.py. -/
import Derived.Test.YtkendoffknjpiaaDrK
import Derived.Test.YtkendoffknjpiaaSpecF
namespace Go.Proofs.Ytkendoffknjpiaa
open Go.ChangeShapes Go.WideShapes Go.ChangeAt Go.RowKit
theorem inpOf_sm (c : Int) : smI (inpOf c) := by
  unfold inpOf smI
  split
  · simp
  · split
    · simp only; omega
    · simp
set_option maxRecDepth 100000 in
set_option maxHeartbeats 2000000 in
theorem l91Input_any (R n : Nat) (w : World) (h : RdL w R n) (hn : n ≤ 900000) : Calls Try.prog 89 #[.pointer (some ⟨R, 0, none⟩)] w (RetInp smI R (n + 3) w) := by
  have hRl := h.lt
  go_enter Try.func89, Try.ntmps89
  go_wp2_with fail
  refine (pick_n R n 10 _ (by (repeat (first | (with_reducible assumption) | (with_reducible refine RdL.alloc ?_ _) | (with_reducible refine RdL.drew ?_) | (with_reducible refine RdL.drewN ?_ _) | (with_reducible refine RdL.far ?_ (by first | omega | (simp; done) | (simp; omega)) _) | (with_reducible refine RdL.later ?_ (by assumption))))) (by omega) (by omega) (by omega)).mono ?_
  rintro e w1 ⟨x1, rfl, x1_0, x1_1, hR1, hg1⟩
  replace hR1 : RdL w1 R (n + 1) := hR1.more (by omega)
  have Z_1 : Bk w1 (w.heap.size) 60 #[.int .i64 0, .int .i64 0, .bool false] := by (repeat (first | (with_reducible assumption) | (with_reducible exact Bk.new _ _ _ (by simp; done)) | (with_reducible refine Bk.alloc ?_ _) | (with_reducible refine Bk.drew ?_) | (with_reducible refine Bk.drewN ?_ _) | (with_reducible apply Bk.set') | (with_reducible refine Bk.far ?_ (by first | omega | (simp; done) | (simp; omega)) _) | (with_reducible refine Bk.later ?_ (by assumption)) | (with_reducible refine Bk.grown ?_ (by assumption) (by first | omega | (simp; done) | (simp; omega))) | (exact SetTo.mk (by with_reducible rfl)) | (exact SetTo.mk (by simp))))
  have hgr1 : w.grownBy w1 (some R) := by (repeat (first | (with_reducible assumption) | (with_reducible exact grownBy_refl _ _) | (with_reducible refine gr_alloc ?_ _) | (with_reducible refine gr_set (by first | omega | (simp; done) | (simp; omega)) ?_ _) | (with_reducible refine gr_drew ?_) | (with_reducible refine gr_drewN ?_ _) | (with_reducible refine gr_after ?_ (by assumption)) | (with_reducible refine gr_below ?_ (by assumption))))
  have hsz1 := hgr1.size
  clear hg1
  have hRl1 := hR1.lt
  have Zz1 := Z_1.lt
  go_wp2_with fail
  refine (specInputOf_any x1 _).mono ?_
  rintro e w2 ⟨rfl, hb2⟩
  have Z_2 : Bk w2 (w.heap.size) 60 #[.int .i64 0, .int .i64 0, .bool false] := by (repeat (first | (with_reducible assumption) | (with_reducible exact Bk.new _ _ _ (by simp; done)) | (with_reducible refine Bk.alloc ?_ _) | (with_reducible refine Bk.drew ?_) | (with_reducible refine Bk.drewN ?_ _) | (with_reducible apply Bk.set') | (with_reducible refine Bk.far ?_ (by first | omega | (simp; done) | (simp; omega)) _) | (with_reducible refine Bk.later ?_ (by assumption)) | (with_reducible refine Bk.grown ?_ (by assumption) (by first | omega | (simp; done) | (simp; omega))) | (exact SetTo.mk (by with_reducible rfl)) | (exact SetTo.mk (by simp))))
  have hgr2 : w.grownBy w2 (some R) := by (repeat (first | (with_reducible assumption) | (with_reducible exact grownBy_refl _ _) | (with_reducible refine gr_alloc ?_ _) | (with_reducible refine gr_set (by first | omega | (simp; done) | (simp; omega)) ?_ _) | (with_reducible refine gr_drew ?_) | (with_reducible refine gr_drewN ?_ _) | (with_reducible refine gr_after ?_ (by assumption)) | (with_reducible refine gr_below ?_ (by assumption))))
  have hsz2 := hgr2.size
  have hR2 : RdL w2 R (n + 1) := by (repeat (first | (with_reducible assumption) | (with_reducible refine RdL.alloc ?_ _) | (with_reducible refine RdL.drew ?_) | (with_reducible refine RdL.drewN ?_ _) | (with_reducible refine RdL.far ?_ (by first | omega | (simp; done) | (simp; omega)) _) | (with_reducible refine RdL.later ?_ (by assumption))))
  clear hb2
  have hRl2 := hR2.lt
  clear Z_1 hgr1 hR1
  have Zz2 := Z_2.lt
  have hsm := inpOf_sm x1
  generalize inpOf x1 = xi at *
  obtain ⟨xs, xp, xz⟩ := xi
  obtain ⟨s1, s2, s3, s4⟩ := hsm
  simp only at s1 s2 s3 s4
  go_wp2_with fail
  refine (pick_n R (n + 1) 24 _ (by (repeat (first | (with_reducible assumption) | (with_reducible refine RdL.alloc ?_ _) | (with_reducible refine RdL.drew ?_) | (with_reducible refine RdL.drewN ?_ _) | (with_reducible refine RdL.far ?_ (by first | omega | (simp; done) | (simp; omega)) _) | (with_reducible refine RdL.later ?_ (by assumption))))) (by omega) (by omega) (by omega)).mono ?_
  rintro e w3 ⟨x2, rfl, x2_0, x2_1, hR3, hg3⟩
  replace hR3 : RdL w3 R (n + 2) := hR3.more (by omega)
  have Z_3 : Bk w3 (w.heap.size) 60 #[.int .i64 0, .int .i64 0, .bool false] := by (repeat (first | (with_reducible assumption) | (with_reducible exact Bk.new _ _ _ (by simp; done)) | (with_reducible refine Bk.alloc ?_ _) | (with_reducible refine Bk.drew ?_) | (with_reducible refine Bk.drewN ?_ _) | (with_reducible apply Bk.set') | (with_reducible refine Bk.far ?_ (by first | omega | (simp; done) | (simp; omega)) _) | (with_reducible refine Bk.later ?_ (by assumption)) | (with_reducible refine Bk.grown ?_ (by assumption) (by first | omega | (simp; done) | (simp; omega))) | (exact SetTo.mk (by with_reducible rfl)) | (exact SetTo.mk (by simp))))
  have X_3 : Bk w3 (w2.heap.size) 60 #[.int .i64 xs, .int .i64 xp, .bool xz] := by (repeat (first | (with_reducible assumption) | (with_reducible exact Bk.new _ _ _ (by simp; done)) | (with_reducible refine Bk.alloc ?_ _) | (with_reducible refine Bk.drew ?_) | (with_reducible refine Bk.drewN ?_ _) | (with_reducible apply Bk.set') | (with_reducible refine Bk.far ?_ (by first | omega | (simp; done) | (simp; omega)) _) | (with_reducible refine Bk.later ?_ (by assumption)) | (with_reducible refine Bk.grown ?_ (by assumption) (by first | omega | (simp; done) | (simp; omega))) | (exact SetTo.mk (by with_reducible rfl)) | (exact SetTo.mk (by simp))))
  have hgr3 : w.grownBy w3 (some R) := by (repeat (first | (with_reducible assumption) | (with_reducible exact grownBy_refl _ _) | (with_reducible refine gr_alloc ?_ _) | (with_reducible refine gr_set (by first | omega | (simp; done) | (simp; omega)) ?_ _) | (with_reducible refine gr_drew ?_) | (with_reducible refine gr_drewN ?_ _) | (with_reducible refine gr_after ?_ (by assumption)) | (with_reducible refine gr_below ?_ (by assumption))))
  have hsz3 := hgr3.size
  clear hg3
  have hRl3 := hR3.lt
  clear Z_2 hgr2 hR2
  have Zz3 := Z_3.lt
  have Xz3 := X_3.lt
  obtain ⟨⟨X3q0, X3q1, X3q2⟩, X3qf⟩ := X_3.c3
  by_cases hx0 : x2 = 0
  · subst hx0
    go_wp2_with fail
    refine (pick_n R (n + 2) 5 _ (by (repeat (first | (with_reducible assumption) | (with_reducible refine RdL.alloc ?_ _) | (with_reducible refine RdL.drew ?_) | (with_reducible refine RdL.drewN ?_ _) | (with_reducible refine RdL.far ?_ (by first | omega | (simp; done) | (simp; omega)) _) | (with_reducible refine RdL.later ?_ (by assumption))))) (by omega) (by omega) (by omega)).mono ?_
    rintro e w4 ⟨x3, rfl, x3_0, x3_1, hR4, hg4⟩
    replace hR4 : RdL w4 R (n + 3) := hR4.more (by omega)
    have Z_4 : Bk w4 (w.heap.size) 60 #[.int .i64 0, .int .i64 0, .bool false] := by (repeat (first | (with_reducible assumption) | (with_reducible exact Bk.new _ _ _ (by simp; done)) | (with_reducible refine Bk.alloc ?_ _) | (with_reducible refine Bk.drew ?_) | (with_reducible refine Bk.drewN ?_ _) | (with_reducible apply Bk.set') | (with_reducible refine Bk.far ?_ (by first | omega | (simp; done) | (simp; omega)) _) | (with_reducible refine Bk.later ?_ (by assumption)) | (with_reducible refine Bk.grown ?_ (by assumption) (by first | omega | (simp; done) | (simp; omega))) | (exact SetTo.mk (by with_reducible rfl)) | (exact SetTo.mk (by simp))))
    have X_4 : Bk w4 (w2.heap.size) 60 #[.int .i64 xs, .int .i64 xp, .bool xz] := by (repeat (first | (with_reducible assumption) | (with_reducible exact Bk.new _ _ _ (by simp; done)) | (with_reducible refine Bk.alloc ?_ _) | (with_reducible refine Bk.drew ?_) | (with_reducible refine Bk.drewN ?_ _) | (with_reducible apply Bk.set') | (with_reducible refine Bk.far ?_ (by first | omega | (simp; done) | (simp; omega)) _) | (with_reducible refine Bk.later ?_ (by assumption)) | (with_reducible refine Bk.grown ?_ (by assumption) (by first | omega | (simp; done) | (simp; omega))) | (exact SetTo.mk (by with_reducible rfl)) | (exact SetTo.mk (by simp))))
    have hgr4 : w.grownBy w4 (some R) := by (repeat (first | (with_reducible assumption) | (with_reducible exact grownBy_refl _ _) | (with_reducible refine gr_alloc ?_ _) | (with_reducible refine gr_set (by first | omega | (simp; done) | (simp; omega)) ?_ _) | (with_reducible refine gr_drew ?_) | (with_reducible refine gr_drewN ?_ _) | (with_reducible refine gr_after ?_ (by assumption)) | (with_reducible refine gr_below ?_ (by assumption))))
    have hsz4 := hgr4.size
    clear hg4
    have hRl4 := hR4.lt
    clear Z_3 X_3 X3q0 X3q1 X3q2 X3qf hgr3 hR3
    have Zz4 := Z_4.lt
    have Xz4 := X_4.lt
    obtain ⟨⟨X4q0, X4q1, X4q2⟩, X4qf⟩ := X_4.c3
    obtain ⟨⟨zz0, zz1, zz2⟩, zzf⟩ := Z_4.c3
    go_wp2
    exact bodyPost_ret (v := .agg #[.int .i64 (x3 - 2), .int .i64 xp, .bool xz]) (by simp [results, Try.results89, go_sem, *]) rfl ⟨⟨x3 - 2, xp, xz⟩, rfl, by unfold smI; simp only; omega, (show RdL _ R (n + 3) by (repeat (first | (with_reducible assumption) | (with_reducible refine RdL.alloc ?_ _) | (with_reducible refine RdL.drew ?_) | (with_reducible refine RdL.drewN ?_ _) | (with_reducible refine RdL.far ?_ (by first | omega | (simp; done) | (simp; omega)) _) | (with_reducible refine RdL.later ?_ (by assumption))))).more (by omega), by (repeat (first | (with_reducible assumption) | (with_reducible exact grownBy_refl _ _) | (with_reducible refine gr_alloc ?_ _) | (with_reducible refine gr_set (by first | omega | (simp; done) | (simp; omega)) ?_ _) | (with_reducible refine gr_drew ?_) | (with_reducible refine gr_drewN ?_ _) | (with_reducible refine gr_after ?_ (by assumption)) | (with_reducible refine gr_below ?_ (by assumption))))⟩
  · have hxb0 : (x2 == 0) = false := by simpa using hx0
    by_cases hx1 : x2 = 1
    · subst hx1
      go_wp2_with fail
      refine (pick_n R (n + 2) 5 _ (by (repeat (first | (with_reducible assumption) | (with_reducible refine RdL.alloc ?_ _) | (with_reducible refine RdL.drew ?_) | (with_reducible refine RdL.drewN ?_ _) | (with_reducible refine RdL.far ?_ (by first | omega | (simp; done) | (simp; omega)) _) | (with_reducible refine RdL.later ?_ (by assumption))))) (by omega) (by omega) (by omega)).mono ?_
      rintro e w4 ⟨x3, rfl, x3_0, x3_1, hR4, hg4⟩
      replace hR4 : RdL w4 R (n + 3) := hR4.more (by omega)
      have Z_4 : Bk w4 (w.heap.size) 60 #[.int .i64 0, .int .i64 0, .bool false] := by (repeat (first | (with_reducible assumption) | (with_reducible exact Bk.new _ _ _ (by simp; done)) | (with_reducible refine Bk.alloc ?_ _) | (with_reducible refine Bk.drew ?_) | (with_reducible refine Bk.drewN ?_ _) | (with_reducible apply Bk.set') | (with_reducible refine Bk.far ?_ (by first | omega | (simp; done) | (simp; omega)) _) | (with_reducible refine Bk.later ?_ (by assumption)) | (with_reducible refine Bk.grown ?_ (by assumption) (by first | omega | (simp; done) | (simp; omega))) | (exact SetTo.mk (by with_reducible rfl)) | (exact SetTo.mk (by simp))))
      have X_4 : Bk w4 (w2.heap.size) 60 #[.int .i64 xs, .int .i64 xp, .bool xz] := by (repeat (first | (with_reducible assumption) | (with_reducible exact Bk.new _ _ _ (by simp; done)) | (with_reducible refine Bk.alloc ?_ _) | (with_reducible refine Bk.drew ?_) | (with_reducible refine Bk.drewN ?_ _) | (with_reducible apply Bk.set') | (with_reducible refine Bk.far ?_ (by first | omega | (simp; done) | (simp; omega)) _) | (with_reducible refine Bk.later ?_ (by assumption)) | (with_reducible refine Bk.grown ?_ (by assumption) (by first | omega | (simp; done) | (simp; omega))) | (exact SetTo.mk (by with_reducible rfl)) | (exact SetTo.mk (by simp))))
      have hgr4 : w.grownBy w4 (some R) := by (repeat (first | (with_reducible assumption) | (with_reducible exact grownBy_refl _ _) | (with_reducible refine gr_alloc ?_ _) | (with_reducible refine gr_set (by first | omega | (simp; done) | (simp; omega)) ?_ _) | (with_reducible refine gr_drew ?_) | (with_reducible refine gr_drewN ?_ _) | (with_reducible refine gr_after ?_ (by assumption)) | (with_reducible refine gr_below ?_ (by assumption))))
      have hsz4 := hgr4.size
      clear hg4
      have hRl4 := hR4.lt
      clear Z_3 X_3 X3q0 X3q1 X3q2 X3qf hgr3 hR3
      have Zz4 := Z_4.lt
      have Xz4 := X_4.lt
      obtain ⟨⟨X4q0, X4q1, X4q2⟩, X4qf⟩ := X_4.c3
      obtain ⟨⟨zz0, zz1, zz2⟩, zzf⟩ := Z_4.c3
      go_wp2
      exact bodyPost_ret (v := .agg #[.int .i64 xs, .int .i64 (x3 - 1), .bool xz]) (by simp [results, Try.results89, go_sem, *]) rfl ⟨⟨xs, x3 - 1, xz⟩, rfl, by unfold smI; simp only; omega, (show RdL _ R (n + 3) by (repeat (first | (with_reducible assumption) | (with_reducible refine RdL.alloc ?_ _) | (with_reducible refine RdL.drew ?_) | (with_reducible refine RdL.drewN ?_ _) | (with_reducible refine RdL.far ?_ (by first | omega | (simp; done) | (simp; omega)) _) | (with_reducible refine RdL.later ?_ (by assumption))))).more (by omega), by (repeat (first | (with_reducible assumption) | (with_reducible exact grownBy_refl _ _) | (with_reducible refine gr_alloc ?_ _) | (with_reducible refine gr_set (by first | omega | (simp; done) | (simp; omega)) ?_ _) | (with_reducible refine gr_drew ?_) | (with_reducible refine gr_drewN ?_ _) | (with_reducible refine gr_after ?_ (by assumption)) | (with_reducible refine gr_below ?_ (by assumption))))⟩
    · have hxb1 : (x2 == 1) = false := by simpa using hx1
      by_cases hx2 : x2 = 2
      · subst hx2
        obtain ⟨⟨zz0, zz1, zz2⟩, zzf⟩ := Z_3.c3
        go_wp2
        exact bodyPost_ret (v := .agg #[.int .i64 xs, .int .i64 xp, .bool true]) (by simp [results, Try.results89, go_sem, *]) rfl ⟨⟨xs, xp, true⟩, rfl, by unfold smI; simp only; omega, (show RdL _ R (n + 2) by (repeat (first | (with_reducible assumption) | (with_reducible refine RdL.alloc ?_ _) | (with_reducible refine RdL.drew ?_) | (with_reducible refine RdL.drewN ?_ _) | (with_reducible refine RdL.far ?_ (by first | omega | (simp; done) | (simp; omega)) _) | (with_reducible refine RdL.later ?_ (by assumption))))).more (by omega), by (repeat (first | (with_reducible assumption) | (with_reducible exact grownBy_refl _ _) | (with_reducible refine gr_alloc ?_ _) | (with_reducible refine gr_set (by first | omega | (simp; done) | (simp; omega)) ?_ _) | (with_reducible refine gr_drew ?_) | (with_reducible refine gr_drewN ?_ _) | (with_reducible refine gr_after ?_ (by assumption)) | (with_reducible refine gr_below ?_ (by assumption))))⟩
      · have hxb2 : (x2 == 2) = false := by simpa using hx2
        obtain ⟨⟨zz0, zz1, zz2⟩, zzf⟩ := Z_3.c3
        go_wp2
        exact bodyPost_ret (v := .agg #[.int .i64 xs, .int .i64 xp, .bool xz]) (by simp [results, Try.results89, go_sem, *]) rfl ⟨⟨xs, xp, xz⟩, rfl, by unfold smI; simp only; omega, (show RdL _ R (n + 2) by (repeat (first | (with_reducible assumption) | (with_reducible refine RdL.alloc ?_ _) | (with_reducible refine RdL.drew ?_) | (with_reducible refine RdL.drewN ?_ _) | (with_reducible refine RdL.far ?_ (by first | omega | (simp; done) | (simp; omega)) _) | (with_reducible refine RdL.later ?_ (by assumption))))).more (by omega), by (repeat (first | (with_reducible assumption) | (with_reducible exact grownBy_refl _ _) | (with_reducible refine gr_alloc ?_ _) | (with_reducible refine gr_set (by first | omega | (simp; done) | (simp; omega)) ?_ _) | (with_reducible refine gr_drew ?_) | (with_reducible refine gr_drewN ?_ _) | (with_reducible refine gr_after ?_ (by assumption)) | (with_reducible refine gr_below ?_ (by assumption))))⟩
set_option maxRecDepth 100000 in
set_option maxHeartbeats 4000000 in
theorem l92Next_any (l : Lev) (b : Inp) (A A' : Option Addr) (c c' : Nat) (R n : Nat) (w : World) (h : RdL w R n) (hn : n ≤ 900000) (h0 : 0 ≤ l.bans) (h1 : l.bans ≤ 1000) (hb : -1 ≤ b.s ∧ b.s ≤ 1) :
    Calls Try.prog 91 #[.pointer (some ⟨R, 0, none⟩), .agg #[.int .i64 l.id, .int .i64 l.ticks, .int .i64 l.start.x, .int .i64 l.start.y, .slice A l.walls.length c, .slice A' l.gates.length c', .int .i64 l.fin.lo.x, .int .i64 l.fin.lo.y, .int .i64 l.fin.hi.x, .int .i64 l.fin.hi.y, .int .i64 l.bans], .agg #[.int .i64 b.s, .int .i64 b.p, .bool b.z]] w (RetInp (fun x => inpOk x = true) R (n + 3) w) := by
  have hRl := h.lt
  go_enter Try.func91, Try.ntmps91
  go_wp2_with fail
  refine (pick_n R n 12 _ (by (repeat (first | (with_reducible assumption) | (with_reducible refine RdL.alloc ?_ _) | (with_reducible refine RdL.drew ?_) | (with_reducible refine RdL.drewN ?_ _) | (with_reducible refine RdL.far ?_ (by first | omega | (simp; done) | (simp; omega)) _) | (with_reducible refine RdL.later ?_ (by assumption))))) (by omega) (by omega) (by omega)).mono ?_
  rintro e w1 ⟨x2, rfl, x2_0, x2_1, hR1, hg1⟩
  replace hR1 : RdL w1 R (n + 1) := hR1.more (by omega)
  have L_1 : Bk w1 (w.heap.size) 95 #[.int .i64 l.id, .int .i64 l.ticks, .int .i64 l.start.x, .int .i64 l.start.y, .slice A l.walls.length c, .slice A' l.gates.length c', .int .i64 l.fin.lo.x, .int .i64 l.fin.lo.y, .int .i64 l.fin.hi.x, .int .i64 l.fin.hi.y, .int .i64 l.bans] := by (repeat (first | (with_reducible assumption) | (with_reducible exact Bk.new _ _ _ (by simp; done)) | (with_reducible refine Bk.alloc ?_ _) | (with_reducible refine Bk.drew ?_) | (with_reducible refine Bk.drewN ?_ _) | (with_reducible apply Bk.set') | (with_reducible refine Bk.far ?_ (by first | omega | (simp; done) | (simp; omega)) _) | (with_reducible refine Bk.later ?_ (by assumption)) | (with_reducible refine Bk.grown ?_ (by assumption) (by first | omega | (simp; done) | (simp; omega))) | (exact SetTo.mk (by with_reducible rfl)) | (exact SetTo.mk (by simp))))
  have B_1 : Bk w1 (w.heap.size + 1) 60 #[.int .i64 b.s, .int .i64 b.p, .bool b.z] := by (repeat (first | (with_reducible assumption) | (with_reducible exact Bk.new _ _ _ (by simp; done)) | (with_reducible refine Bk.alloc ?_ _) | (with_reducible refine Bk.drew ?_) | (with_reducible refine Bk.drewN ?_ _) | (with_reducible apply Bk.set') | (with_reducible refine Bk.far ?_ (by first | omega | (simp; done) | (simp; omega)) _) | (with_reducible refine Bk.later ?_ (by assumption)) | (with_reducible refine Bk.grown ?_ (by assumption) (by first | omega | (simp; done) | (simp; omega))) | (exact SetTo.mk (by with_reducible rfl)) | (exact SetTo.mk (by simp))))
  have Z_1 : Bk w1 (w.heap.size + 1 + 1) 60 #[.int .i64 0, .int .i64 0, .bool false] := by (repeat (first | (with_reducible assumption) | (with_reducible exact Bk.new _ _ _ (by simp; done)) | (with_reducible refine Bk.alloc ?_ _) | (with_reducible refine Bk.drew ?_) | (with_reducible refine Bk.drewN ?_ _) | (with_reducible apply Bk.set') | (with_reducible refine Bk.far ?_ (by first | omega | (simp; done) | (simp; omega)) _) | (with_reducible refine Bk.later ?_ (by assumption)) | (with_reducible refine Bk.grown ?_ (by assumption) (by first | omega | (simp; done) | (simp; omega))) | (exact SetTo.mk (by with_reducible rfl)) | (exact SetTo.mk (by simp))))
  have X_1 : Bk w1 (w.heap.size + 1 + 1 + 1) 60 #[.int .i64 0, .int .i64 1, .bool false] := by (repeat (first | (with_reducible assumption) | (with_reducible exact Bk.new _ _ _ (by simp; done)) | (with_reducible refine Bk.alloc ?_ _) | (with_reducible refine Bk.drew ?_) | (with_reducible refine Bk.drewN ?_ _) | (with_reducible apply Bk.set') | (with_reducible refine Bk.far ?_ (by first | omega | (simp; done) | (simp; omega)) _) | (with_reducible refine Bk.later ?_ (by assumption)) | (with_reducible refine Bk.grown ?_ (by assumption) (by first | omega | (simp; done) | (simp; omega))) | (exact SetTo.mk (by with_reducible rfl)) | (exact SetTo.mk (by simp))))
  have hgr1 : w.grownBy w1 (some R) := by (repeat (first | (with_reducible assumption) | (with_reducible exact grownBy_refl _ _) | (with_reducible refine gr_alloc ?_ _) | (with_reducible refine gr_set (by first | omega | (simp; done) | (simp; omega)) ?_ _) | (with_reducible refine gr_drew ?_) | (with_reducible refine gr_drewN ?_ _) | (with_reducible refine gr_after ?_ (by assumption)) | (with_reducible refine gr_below ?_ (by assumption))))
  have hsz1 := hgr1.size
  clear hg1
  have hRl1 := hR1.lt
  have Lz1 := L_1.lt
  obtain ⟨⟨L1q0, L1q1, L1q2, L1q3, L1q4, L1q5, L1q6, L1q7, L1q8, L1q9, L1q10⟩, L1qf⟩ := L_1.c11
  have Bz1 := B_1.lt
  obtain ⟨⟨B1q0, B1q1, B1q2⟩, B1qf⟩ := B_1.c3
  have Zz1 := Z_1.lt
  obtain ⟨⟨Z1q0, Z1q1, Z1q2⟩, Z1qf⟩ := Z_1.c3
  have Xz1 := X_1.lt
  obtain ⟨⟨X1q0, X1q1, X1q2⟩, X1qf⟩ := X_1.c3
  by_cases hx0 : x2 = 0
  · subst hx0
    go_wp2_with fail
    refine (pick_n R (n + 1) 3 _ (by (repeat (first | (with_reducible assumption) | (with_reducible refine RdL.alloc ?_ _) | (with_reducible refine RdL.drew ?_) | (with_reducible refine RdL.drewN ?_ _) | (with_reducible refine RdL.far ?_ (by first | omega | (simp; done) | (simp; omega)) _) | (with_reducible refine RdL.later ?_ (by assumption))))) (by omega) (by omega) (by omega)).mono ?_
    rintro e w2 ⟨x3, rfl, x3_0, x3_1, hR2, hg2⟩
    replace hR2 : RdL w2 R (n + 2) := hR2.more (by omega)
    have L_2 : Bk w2 (w.heap.size) 95 #[.int .i64 l.id, .int .i64 l.ticks, .int .i64 l.start.x, .int .i64 l.start.y, .slice A l.walls.length c, .slice A' l.gates.length c', .int .i64 l.fin.lo.x, .int .i64 l.fin.lo.y, .int .i64 l.fin.hi.x, .int .i64 l.fin.hi.y, .int .i64 l.bans] := by (repeat (first | (with_reducible assumption) | (with_reducible exact Bk.new _ _ _ (by simp; done)) | (with_reducible refine Bk.alloc ?_ _) | (with_reducible refine Bk.drew ?_) | (with_reducible refine Bk.drewN ?_ _) | (with_reducible apply Bk.set') | (with_reducible refine Bk.far ?_ (by first | omega | (simp; done) | (simp; omega)) _) | (with_reducible refine Bk.later ?_ (by assumption)) | (with_reducible refine Bk.grown ?_ (by assumption) (by first | omega | (simp; done) | (simp; omega))) | (exact SetTo.mk (by with_reducible rfl)) | (exact SetTo.mk (by simp))))
    have B_2 : Bk w2 (w.heap.size + 1) 60 #[.int .i64 b.s, .int .i64 b.p, .bool b.z] := by (repeat (first | (with_reducible assumption) | (with_reducible exact Bk.new _ _ _ (by simp; done)) | (with_reducible refine Bk.alloc ?_ _) | (with_reducible refine Bk.drew ?_) | (with_reducible refine Bk.drewN ?_ _) | (with_reducible apply Bk.set') | (with_reducible refine Bk.far ?_ (by first | omega | (simp; done) | (simp; omega)) _) | (with_reducible refine Bk.later ?_ (by assumption)) | (with_reducible refine Bk.grown ?_ (by assumption) (by first | omega | (simp; done) | (simp; omega))) | (exact SetTo.mk (by with_reducible rfl)) | (exact SetTo.mk (by simp))))
    have Z_2 : Bk w2 (w.heap.size + 1 + 1) 60 #[.int .i64 0, .int .i64 0, .bool false] := by (repeat (first | (with_reducible assumption) | (with_reducible exact Bk.new _ _ _ (by simp; done)) | (with_reducible refine Bk.alloc ?_ _) | (with_reducible refine Bk.drew ?_) | (with_reducible refine Bk.drewN ?_ _) | (with_reducible apply Bk.set') | (with_reducible refine Bk.far ?_ (by first | omega | (simp; done) | (simp; omega)) _) | (with_reducible refine Bk.later ?_ (by assumption)) | (with_reducible refine Bk.grown ?_ (by assumption) (by first | omega | (simp; done) | (simp; omega))) | (exact SetTo.mk (by with_reducible rfl)) | (exact SetTo.mk (by simp))))
    have X_2 : Bk w2 (w.heap.size + 1 + 1 + 1) 60 #[.int .i64 0, .int .i64 1, .bool false] := by (repeat (first | (with_reducible assumption) | (with_reducible exact Bk.new _ _ _ (by simp; done)) | (with_reducible refine Bk.alloc ?_ _) | (with_reducible refine Bk.drew ?_) | (with_reducible refine Bk.drewN ?_ _) | (with_reducible apply Bk.set') | (with_reducible refine Bk.far ?_ (by first | omega | (simp; done) | (simp; omega)) _) | (with_reducible refine Bk.later ?_ (by assumption)) | (with_reducible refine Bk.grown ?_ (by assumption) (by first | omega | (simp; done) | (simp; omega))) | (exact SetTo.mk (by with_reducible rfl)) | (exact SetTo.mk (by simp))))
    have hgr2 : w.grownBy w2 (some R) := by (repeat (first | (with_reducible assumption) | (with_reducible exact grownBy_refl _ _) | (with_reducible refine gr_alloc ?_ _) | (with_reducible refine gr_set (by first | omega | (simp; done) | (simp; omega)) ?_ _) | (with_reducible refine gr_drew ?_) | (with_reducible refine gr_drewN ?_ _) | (with_reducible refine gr_after ?_ (by assumption)) | (with_reducible refine gr_below ?_ (by assumption))))
    have hsz2 := hgr2.size
    clear hg2
    have hRl2 := hR2.lt
    clear L_1 L1q0 L1q1 L1q2 L1q3 L1q4 L1q5 L1q6 L1q7 L1q8 L1q9 L1q10 L1qf B_1 B1q0 B1q1 B1q2 B1qf Z_1 Z1q0 Z1q1 Z1q2 Z1qf X_1 X1q0 X1q1 X1q2 X1qf hgr1 hR1
    have Lz2 := L_2.lt
    obtain ⟨⟨L2q0, L2q1, L2q2, L2q3, L2q4, L2q5, L2q6, L2q7, L2q8, L2q9, L2q10⟩, L2qf⟩ := L_2.c11
    have Bz2 := B_2.lt
    obtain ⟨⟨B2q0, B2q1, B2q2⟩, B2qf⟩ := B_2.c3
    have Zz2 := Z_2.lt
    obtain ⟨⟨Z2q0, Z2q1, Z2q2⟩, Z2qf⟩ := Z_2.c3
    have Xz2 := X_2.lt
    obtain ⟨⟨X2q0, X2q1, X2q2⟩, X2qf⟩ := X_2.c3
    go_wp2_with fail
    refine (l12Follows_any l b ⟨0, x3, false⟩ _ _ _ _ _ h0 h1 hb).mono ?_
    rintro e w3 ⟨rfl, hb3⟩
    have L_3 : Bk w3 (w.heap.size) 95 #[.int .i64 l.id, .int .i64 l.ticks, .int .i64 l.start.x, .int .i64 l.start.y, .slice A l.walls.length c, .slice A' l.gates.length c', .int .i64 l.fin.lo.x, .int .i64 l.fin.lo.y, .int .i64 l.fin.hi.x, .int .i64 l.fin.hi.y, .int .i64 l.bans] := by (repeat (first | (with_reducible assumption) | (with_reducible exact Bk.new _ _ _ (by simp; done)) | (with_reducible refine Bk.alloc ?_ _) | (with_reducible refine Bk.drew ?_) | (with_reducible refine Bk.drewN ?_ _) | (with_reducible apply Bk.set') | (with_reducible refine Bk.far ?_ (by first | omega | (simp; done) | (simp; omega)) _) | (with_reducible refine Bk.later ?_ (by assumption)) | (with_reducible refine Bk.grown ?_ (by assumption) (by first | omega | (simp; done) | (simp; omega))) | (exact SetTo.mk (by with_reducible rfl)) | (exact SetTo.mk (by simp))))
    have B_3 : Bk w3 (w.heap.size + 1) 60 #[.int .i64 b.s, .int .i64 b.p, .bool b.z] := by (repeat (first | (with_reducible assumption) | (with_reducible exact Bk.new _ _ _ (by simp; done)) | (with_reducible refine Bk.alloc ?_ _) | (with_reducible refine Bk.drew ?_) | (with_reducible refine Bk.drewN ?_ _) | (with_reducible apply Bk.set') | (with_reducible refine Bk.far ?_ (by first | omega | (simp; done) | (simp; omega)) _) | (with_reducible refine Bk.later ?_ (by assumption)) | (with_reducible refine Bk.grown ?_ (by assumption) (by first | omega | (simp; done) | (simp; omega))) | (exact SetTo.mk (by with_reducible rfl)) | (exact SetTo.mk (by simp))))
    have Z_3 : Bk w3 (w.heap.size + 1 + 1) 60 #[.int .i64 0, .int .i64 0, .bool false] := by (repeat (first | (with_reducible assumption) | (with_reducible exact Bk.new _ _ _ (by simp; done)) | (with_reducible refine Bk.alloc ?_ _) | (with_reducible refine Bk.drew ?_) | (with_reducible refine Bk.drewN ?_ _) | (with_reducible apply Bk.set') | (with_reducible refine Bk.far ?_ (by first | omega | (simp; done) | (simp; omega)) _) | (with_reducible refine Bk.later ?_ (by assumption)) | (with_reducible refine Bk.grown ?_ (by assumption) (by first | omega | (simp; done) | (simp; omega))) | (exact SetTo.mk (by with_reducible rfl)) | (exact SetTo.mk (by simp))))
    have X_3 : Bk w3 (w.heap.size + 1 + 1 + 1) 60 #[.int .i64 0, .int .i64 x3, .bool false] := by (repeat (first | (with_reducible assumption) | (with_reducible exact Bk.new _ _ _ (by simp; done)) | (with_reducible refine Bk.alloc ?_ _) | (with_reducible refine Bk.drew ?_) | (with_reducible refine Bk.drewN ?_ _) | (with_reducible apply Bk.set') | (with_reducible refine Bk.far ?_ (by first | omega | (simp; done) | (simp; omega)) _) | (with_reducible refine Bk.later ?_ (by assumption)) | (with_reducible refine Bk.grown ?_ (by assumption) (by first | omega | (simp; done) | (simp; omega))) | (exact SetTo.mk (by with_reducible rfl)) | (exact SetTo.mk (by simp))))
    have hgr3 : w.grownBy w3 (some R) := by (repeat (first | (with_reducible assumption) | (with_reducible exact grownBy_refl _ _) | (with_reducible refine gr_alloc ?_ _) | (with_reducible refine gr_set (by first | omega | (simp; done) | (simp; omega)) ?_ _) | (with_reducible refine gr_drew ?_) | (with_reducible refine gr_drewN ?_ _) | (with_reducible refine gr_after ?_ (by assumption)) | (with_reducible refine gr_below ?_ (by assumption))))
    have hsz3 := hgr3.size
    have hR3 : RdL w3 R (n + 2) := by (repeat (first | (with_reducible assumption) | (with_reducible refine RdL.alloc ?_ _) | (with_reducible refine RdL.drew ?_) | (with_reducible refine RdL.drewN ?_ _) | (with_reducible refine RdL.far ?_ (by first | omega | (simp; done) | (simp; omega)) _) | (with_reducible refine RdL.later ?_ (by assumption))))
    clear hb3
    have hRl3 := hR3.lt
    clear L_2 L2q0 L2q1 L2q2 L2q3 L2q4 L2q5 L2q6 L2q7 L2q8 L2q9 L2q10 L2qf B_2 B2q0 B2q1 B2q2 B2qf Z_2 Z2q0 Z2q1 Z2q2 Z2qf X_2 X2q0 X2q1 X2q2 X2qf hgr2 hR2
    have Lz3 := L_3.lt
    obtain ⟨⟨L3q0, L3q1, L3q2, L3q3, L3q4, L3q5, L3q6, L3q7, L3q8, L3q9, L3q10⟩, L3qf⟩ := L_3.c11
    have Bz3 := B_3.lt
    obtain ⟨⟨B3q0, B3q1, B3q2⟩, B3qf⟩ := B_3.c3
    have Zz3 := Z_3.lt
    obtain ⟨⟨Z3q0, Z3q1, Z3q2⟩, Z3qf⟩ := Z_3.c3
    have Xz3 := X_3.lt
    obtain ⟨⟨X3q0, X3q1, X3q2⟩, X3qf⟩ := X_3.c3
    cases hF : folB l b.s ⟨0, x3, false⟩
    · go_wp2
      exact bodyPost_ret (v := .agg #[.int .i64 0, .int .i64 1, .bool false]) (by simp [results, Try.results91, go_sem, *]) rfl ⟨⟨0, 1, false⟩, rfl, by decide, (show RdL _ R (n + 2) by (repeat (first | (with_reducible assumption) | (with_reducible refine RdL.alloc ?_ _) | (with_reducible refine RdL.drew ?_) | (with_reducible refine RdL.drewN ?_ _) | (with_reducible refine RdL.far ?_ (by first | omega | (simp; done) | (simp; omega)) _) | (with_reducible refine RdL.later ?_ (by assumption))))).more (by omega), by (repeat (first | (with_reducible assumption) | (with_reducible exact grownBy_refl _ _) | (with_reducible refine gr_alloc ?_ _) | (with_reducible refine gr_set (by first | omega | (simp; done) | (simp; omega)) ?_ _) | (with_reducible refine gr_drew ?_) | (with_reducible refine gr_drewN ?_ _) | (with_reducible refine gr_after ?_ (by assumption)) | (with_reducible refine gr_below ?_ (by assumption))))⟩
    · have hOk := Lib.hid (folB_inp hF)
      go_wp2
      exact bodyPost_ret (v := .agg #[.int .i64 0, .int .i64 x3, .bool false]) (by simp [results, Try.results91, go_sem, *]) rfl ⟨⟨0, x3, false⟩, rfl, hOk.out, (show RdL _ R (n + 2) by (repeat (first | (with_reducible assumption) | (with_reducible refine RdL.alloc ?_ _) | (with_reducible refine RdL.drew ?_) | (with_reducible refine RdL.drewN ?_ _) | (with_reducible refine RdL.far ?_ (by first | omega | (simp; done) | (simp; omega)) _) | (with_reducible refine RdL.later ?_ (by assumption))))).more (by omega), by (repeat (first | (with_reducible assumption) | (with_reducible exact grownBy_refl _ _) | (with_reducible refine gr_alloc ?_ _) | (with_reducible refine gr_set (by first | omega | (simp; done) | (simp; omega)) ?_ _) | (with_reducible refine gr_drew ?_) | (with_reducible refine gr_drewN ?_ _) | (with_reducible refine gr_after ?_ (by assumption)) | (with_reducible refine gr_below ?_ (by assumption))))⟩
  · have hxb0 : (x2 == 0) = false := by simpa using hx0
    by_cases hx1 : x2 = 1
    · subst hx1
      go_wp2_with fail
      refine (pick_n R (n + 1) 3 _ (by (repeat (first | (with_reducible assumption) | (with_reducible refine RdL.alloc ?_ _) | (with_reducible refine RdL.drew ?_) | (with_reducible refine RdL.drewN ?_ _) | (with_reducible refine RdL.far ?_ (by first | omega | (simp; done) | (simp; omega)) _) | (with_reducible refine RdL.later ?_ (by assumption))))) (by omega) (by omega) (by omega)).mono ?_
      rintro e w2 ⟨x3, rfl, x3_0, x3_1, hR2, hg2⟩
      replace hR2 : RdL w2 R (n + 2) := hR2.more (by omega)
      have L_2 : Bk w2 (w.heap.size) 95 #[.int .i64 l.id, .int .i64 l.ticks, .int .i64 l.start.x, .int .i64 l.start.y, .slice A l.walls.length c, .slice A' l.gates.length c', .int .i64 l.fin.lo.x, .int .i64 l.fin.lo.y, .int .i64 l.fin.hi.x, .int .i64 l.fin.hi.y, .int .i64 l.bans] := by (repeat (first | (with_reducible assumption) | (with_reducible exact Bk.new _ _ _ (by simp; done)) | (with_reducible refine Bk.alloc ?_ _) | (with_reducible refine Bk.drew ?_) | (with_reducible refine Bk.drewN ?_ _) | (with_reducible apply Bk.set') | (with_reducible refine Bk.far ?_ (by first | omega | (simp; done) | (simp; omega)) _) | (with_reducible refine Bk.later ?_ (by assumption)) | (with_reducible refine Bk.grown ?_ (by assumption) (by first | omega | (simp; done) | (simp; omega))) | (exact SetTo.mk (by with_reducible rfl)) | (exact SetTo.mk (by simp))))
      have B_2 : Bk w2 (w.heap.size + 1) 60 #[.int .i64 b.s, .int .i64 b.p, .bool b.z] := by (repeat (first | (with_reducible assumption) | (with_reducible exact Bk.new _ _ _ (by simp; done)) | (with_reducible refine Bk.alloc ?_ _) | (with_reducible refine Bk.drew ?_) | (with_reducible refine Bk.drewN ?_ _) | (with_reducible apply Bk.set') | (with_reducible refine Bk.far ?_ (by first | omega | (simp; done) | (simp; omega)) _) | (with_reducible refine Bk.later ?_ (by assumption)) | (with_reducible refine Bk.grown ?_ (by assumption) (by first | omega | (simp; done) | (simp; omega))) | (exact SetTo.mk (by with_reducible rfl)) | (exact SetTo.mk (by simp))))
      have Z_2 : Bk w2 (w.heap.size + 1 + 1) 60 #[.int .i64 0, .int .i64 0, .bool false] := by (repeat (first | (with_reducible assumption) | (with_reducible exact Bk.new _ _ _ (by simp; done)) | (with_reducible refine Bk.alloc ?_ _) | (with_reducible refine Bk.drew ?_) | (with_reducible refine Bk.drewN ?_ _) | (with_reducible apply Bk.set') | (with_reducible refine Bk.far ?_ (by first | omega | (simp; done) | (simp; omega)) _) | (with_reducible refine Bk.later ?_ (by assumption)) | (with_reducible refine Bk.grown ?_ (by assumption) (by first | omega | (simp; done) | (simp; omega))) | (exact SetTo.mk (by with_reducible rfl)) | (exact SetTo.mk (by simp))))
      have X_2 : Bk w2 (w.heap.size + 1 + 1 + 1) 60 #[.int .i64 0, .int .i64 1, .bool false] := by (repeat (first | (with_reducible assumption) | (with_reducible exact Bk.new _ _ _ (by simp; done)) | (with_reducible refine Bk.alloc ?_ _) | (with_reducible refine Bk.drew ?_) | (with_reducible refine Bk.drewN ?_ _) | (with_reducible apply Bk.set') | (with_reducible refine Bk.far ?_ (by first | omega | (simp; done) | (simp; omega)) _) | (with_reducible refine Bk.later ?_ (by assumption)) | (with_reducible refine Bk.grown ?_ (by assumption) (by first | omega | (simp; done) | (simp; omega))) | (exact SetTo.mk (by with_reducible rfl)) | (exact SetTo.mk (by simp))))
      have hgr2 : w.grownBy w2 (some R) := by (repeat (first | (with_reducible assumption) | (with_reducible exact grownBy_refl _ _) | (with_reducible refine gr_alloc ?_ _) | (with_reducible refine gr_set (by first | omega | (simp; done) | (simp; omega)) ?_ _) | (with_reducible refine gr_drew ?_) | (with_reducible refine gr_drewN ?_ _) | (with_reducible refine gr_after ?_ (by assumption)) | (with_reducible refine gr_below ?_ (by assumption))))
      have hsz2 := hgr2.size
      clear hg2
      have hRl2 := hR2.lt
      clear L_1 L1q0 L1q1 L1q2 L1q3 L1q4 L1q5 L1q6 L1q7 L1q8 L1q9 L1q10 L1qf B_1 B1q0 B1q1 B1q2 B1qf Z_1 Z1q0 Z1q1 Z1q2 Z1qf X_1 X1q0 X1q1 X1q2 X1qf hgr1 hR1
      have Lz2 := L_2.lt
      obtain ⟨⟨L2q0, L2q1, L2q2, L2q3, L2q4, L2q5, L2q6, L2q7, L2q8, L2q9, L2q10⟩, L2qf⟩ := L_2.c11
      have Bz2 := B_2.lt
      obtain ⟨⟨B2q0, B2q1, B2q2⟩, B2qf⟩ := B_2.c3
      have Zz2 := Z_2.lt
      obtain ⟨⟨Z2q0, Z2q1, Z2q2⟩, Z2qf⟩ := Z_2.c3
      have Xz2 := X_2.lt
      obtain ⟨⟨X2q0, X2q1, X2q2⟩, X2qf⟩ := X_2.c3
      go_wp2_with fail
      refine (l12Follows_any l b ⟨x3 - 1, 1, false⟩ _ _ _ _ _ h0 h1 hb).mono ?_
      rintro e w3 ⟨rfl, hb3⟩
      have L_3 : Bk w3 (w.heap.size) 95 #[.int .i64 l.id, .int .i64 l.ticks, .int .i64 l.start.x, .int .i64 l.start.y, .slice A l.walls.length c, .slice A' l.gates.length c', .int .i64 l.fin.lo.x, .int .i64 l.fin.lo.y, .int .i64 l.fin.hi.x, .int .i64 l.fin.hi.y, .int .i64 l.bans] := by (repeat (first | (with_reducible assumption) | (with_reducible exact Bk.new _ _ _ (by simp; done)) | (with_reducible refine Bk.alloc ?_ _) | (with_reducible refine Bk.drew ?_) | (with_reducible refine Bk.drewN ?_ _) | (with_reducible apply Bk.set') | (with_reducible refine Bk.far ?_ (by first | omega | (simp; done) | (simp; omega)) _) | (with_reducible refine Bk.later ?_ (by assumption)) | (with_reducible refine Bk.grown ?_ (by assumption) (by first | omega | (simp; done) | (simp; omega))) | (exact SetTo.mk (by with_reducible rfl)) | (exact SetTo.mk (by simp))))
      have B_3 : Bk w3 (w.heap.size + 1) 60 #[.int .i64 b.s, .int .i64 b.p, .bool b.z] := by (repeat (first | (with_reducible assumption) | (with_reducible exact Bk.new _ _ _ (by simp; done)) | (with_reducible refine Bk.alloc ?_ _) | (with_reducible refine Bk.drew ?_) | (with_reducible refine Bk.drewN ?_ _) | (with_reducible apply Bk.set') | (with_reducible refine Bk.far ?_ (by first | omega | (simp; done) | (simp; omega)) _) | (with_reducible refine Bk.later ?_ (by assumption)) | (with_reducible refine Bk.grown ?_ (by assumption) (by first | omega | (simp; done) | (simp; omega))) | (exact SetTo.mk (by with_reducible rfl)) | (exact SetTo.mk (by simp))))
      have Z_3 : Bk w3 (w.heap.size + 1 + 1) 60 #[.int .i64 0, .int .i64 0, .bool false] := by (repeat (first | (with_reducible assumption) | (with_reducible exact Bk.new _ _ _ (by simp; done)) | (with_reducible refine Bk.alloc ?_ _) | (with_reducible refine Bk.drew ?_) | (with_reducible refine Bk.drewN ?_ _) | (with_reducible apply Bk.set') | (with_reducible refine Bk.far ?_ (by first | omega | (simp; done) | (simp; omega)) _) | (with_reducible refine Bk.later ?_ (by assumption)) | (with_reducible refine Bk.grown ?_ (by assumption) (by first | omega | (simp; done) | (simp; omega))) | (exact SetTo.mk (by with_reducible rfl)) | (exact SetTo.mk (by simp))))
      have X_3 : Bk w3 (w.heap.size + 1 + 1 + 1) 60 #[.int .i64 (x3 - 1), .int .i64 1, .bool false] := by (repeat (first | (with_reducible assumption) | (with_reducible exact Bk.new _ _ _ (by simp; done)) | (with_reducible refine Bk.alloc ?_ _) | (with_reducible refine Bk.drew ?_) | (with_reducible refine Bk.drewN ?_ _) | (with_reducible apply Bk.set') | (with_reducible refine Bk.far ?_ (by first | omega | (simp; done) | (simp; omega)) _) | (with_reducible refine Bk.later ?_ (by assumption)) | (with_reducible refine Bk.grown ?_ (by assumption) (by first | omega | (simp; done) | (simp; omega))) | (exact SetTo.mk (by with_reducible rfl)) | (exact SetTo.mk (by simp))))
      have hgr3 : w.grownBy w3 (some R) := by (repeat (first | (with_reducible assumption) | (with_reducible exact grownBy_refl _ _) | (with_reducible refine gr_alloc ?_ _) | (with_reducible refine gr_set (by first | omega | (simp; done) | (simp; omega)) ?_ _) | (with_reducible refine gr_drew ?_) | (with_reducible refine gr_drewN ?_ _) | (with_reducible refine gr_after ?_ (by assumption)) | (with_reducible refine gr_below ?_ (by assumption))))
      have hsz3 := hgr3.size
      have hR3 : RdL w3 R (n + 2) := by (repeat (first | (with_reducible assumption) | (with_reducible refine RdL.alloc ?_ _) | (with_reducible refine RdL.drew ?_) | (with_reducible refine RdL.drewN ?_ _) | (with_reducible refine RdL.far ?_ (by first | omega | (simp; done) | (simp; omega)) _) | (with_reducible refine RdL.later ?_ (by assumption))))
      clear hb3
      have hRl3 := hR3.lt
      clear L_2 L2q0 L2q1 L2q2 L2q3 L2q4 L2q5 L2q6 L2q7 L2q8 L2q9 L2q10 L2qf B_2 B2q0 B2q1 B2q2 B2qf Z_2 Z2q0 Z2q1 Z2q2 Z2qf X_2 X2q0 X2q1 X2q2 X2qf hgr2 hR2
      have Lz3 := L_3.lt
      obtain ⟨⟨L3q0, L3q1, L3q2, L3q3, L3q4, L3q5, L3q6, L3q7, L3q8, L3q9, L3q10⟩, L3qf⟩ := L_3.c11
      have Bz3 := B_3.lt
      obtain ⟨⟨B3q0, B3q1, B3q2⟩, B3qf⟩ := B_3.c3
      have Zz3 := Z_3.lt
      obtain ⟨⟨Z3q0, Z3q1, Z3q2⟩, Z3qf⟩ := Z_3.c3
      have Xz3 := X_3.lt
      obtain ⟨⟨X3q0, X3q1, X3q2⟩, X3qf⟩ := X_3.c3
      cases hF : folB l b.s ⟨x3 - 1, 1, false⟩
      · go_wp2
        exact bodyPost_ret (v := .agg #[.int .i64 0, .int .i64 1, .bool false]) (by simp [results, Try.results91, go_sem, *]) rfl ⟨⟨0, 1, false⟩, rfl, by decide, (show RdL _ R (n + 2) by (repeat (first | (with_reducible assumption) | (with_reducible refine RdL.alloc ?_ _) | (with_reducible refine RdL.drew ?_) | (with_reducible refine RdL.drewN ?_ _) | (with_reducible refine RdL.far ?_ (by first | omega | (simp; done) | (simp; omega)) _) | (with_reducible refine RdL.later ?_ (by assumption))))).more (by omega), by (repeat (first | (with_reducible assumption) | (with_reducible exact grownBy_refl _ _) | (with_reducible refine gr_alloc ?_ _) | (with_reducible refine gr_set (by first | omega | (simp; done) | (simp; omega)) ?_ _) | (with_reducible refine gr_drew ?_) | (with_reducible refine gr_drewN ?_ _) | (with_reducible refine gr_after ?_ (by assumption)) | (with_reducible refine gr_below ?_ (by assumption))))⟩
      · have hOk := Lib.hid (folB_inp hF)
        go_wp2
        exact bodyPost_ret (v := .agg #[.int .i64 (x3 - 1), .int .i64 1, .bool false]) (by simp [results, Try.results91, go_sem, *]) rfl ⟨⟨x3 - 1, 1, false⟩, rfl, hOk.out, (show RdL _ R (n + 2) by (repeat (first | (with_reducible assumption) | (with_reducible refine RdL.alloc ?_ _) | (with_reducible refine RdL.drew ?_) | (with_reducible refine RdL.drewN ?_ _) | (with_reducible refine RdL.far ?_ (by first | omega | (simp; done) | (simp; omega)) _) | (with_reducible refine RdL.later ?_ (by assumption))))).more (by omega), by (repeat (first | (with_reducible assumption) | (with_reducible exact grownBy_refl _ _) | (with_reducible refine gr_alloc ?_ _) | (with_reducible refine gr_set (by first | omega | (simp; done) | (simp; omega)) ?_ _) | (with_reducible refine gr_drew ?_) | (with_reducible refine gr_drewN ?_ _) | (with_reducible refine gr_after ?_ (by assumption)) | (with_reducible refine gr_below ?_ (by assumption))))⟩
    · have hxb1 : (x2 == 1) = false := by simpa using hx1
      by_cases hx2 : x2 = 2
      · subst hx2
        go_wp2_with fail
        refine (pick_n R (n + 1) 3 _ (by (repeat (first | (with_reducible assumption) | (with_reducible refine RdL.alloc ?_ _) | (with_reducible refine RdL.drew ?_) | (with_reducible refine RdL.drewN ?_ _) | (with_reducible refine RdL.far ?_ (by first | omega | (simp; done) | (simp; omega)) _) | (with_reducible refine RdL.later ?_ (by assumption))))) (by omega) (by omega) (by omega)).mono ?_
        rintro e w2 ⟨x3, rfl, x3_0, x3_1, hR2, hg2⟩
        replace hR2 : RdL w2 R (n + 2) := hR2.more (by omega)
        have L_2 : Bk w2 (w.heap.size) 95 #[.int .i64 l.id, .int .i64 l.ticks, .int .i64 l.start.x, .int .i64 l.start.y, .slice A l.walls.length c, .slice A' l.gates.length c', .int .i64 l.fin.lo.x, .int .i64 l.fin.lo.y, .int .i64 l.fin.hi.x, .int .i64 l.fin.hi.y, .int .i64 l.bans] := by (repeat (first | (with_reducible assumption) | (with_reducible exact Bk.new _ _ _ (by simp; done)) | (with_reducible refine Bk.alloc ?_ _) | (with_reducible refine Bk.drew ?_) | (with_reducible refine Bk.drewN ?_ _) | (with_reducible apply Bk.set') | (with_reducible refine Bk.far ?_ (by first | omega | (simp; done) | (simp; omega)) _) | (with_reducible refine Bk.later ?_ (by assumption)) | (with_reducible refine Bk.grown ?_ (by assumption) (by first | omega | (simp; done) | (simp; omega))) | (exact SetTo.mk (by with_reducible rfl)) | (exact SetTo.mk (by simp))))
        have B_2 : Bk w2 (w.heap.size + 1) 60 #[.int .i64 b.s, .int .i64 b.p, .bool b.z] := by (repeat (first | (with_reducible assumption) | (with_reducible exact Bk.new _ _ _ (by simp; done)) | (with_reducible refine Bk.alloc ?_ _) | (with_reducible refine Bk.drew ?_) | (with_reducible refine Bk.drewN ?_ _) | (with_reducible apply Bk.set') | (with_reducible refine Bk.far ?_ (by first | omega | (simp; done) | (simp; omega)) _) | (with_reducible refine Bk.later ?_ (by assumption)) | (with_reducible refine Bk.grown ?_ (by assumption) (by first | omega | (simp; done) | (simp; omega))) | (exact SetTo.mk (by with_reducible rfl)) | (exact SetTo.mk (by simp))))
        have Z_2 : Bk w2 (w.heap.size + 1 + 1) 60 #[.int .i64 0, .int .i64 0, .bool false] := by (repeat (first | (with_reducible assumption) | (with_reducible exact Bk.new _ _ _ (by simp; done)) | (with_reducible refine Bk.alloc ?_ _) | (with_reducible refine Bk.drew ?_) | (with_reducible refine Bk.drewN ?_ _) | (with_reducible apply Bk.set') | (with_reducible refine Bk.far ?_ (by first | omega | (simp; done) | (simp; omega)) _) | (with_reducible refine Bk.later ?_ (by assumption)) | (with_reducible refine Bk.grown ?_ (by assumption) (by first | omega | (simp; done) | (simp; omega))) | (exact SetTo.mk (by with_reducible rfl)) | (exact SetTo.mk (by simp))))
        have X_2 : Bk w2 (w.heap.size + 1 + 1 + 1) 60 #[.int .i64 0, .int .i64 1, .bool false] := by (repeat (first | (with_reducible assumption) | (with_reducible exact Bk.new _ _ _ (by simp; done)) | (with_reducible refine Bk.alloc ?_ _) | (with_reducible refine Bk.drew ?_) | (with_reducible refine Bk.drewN ?_ _) | (with_reducible apply Bk.set') | (with_reducible refine Bk.far ?_ (by first | omega | (simp; done) | (simp; omega)) _) | (with_reducible refine Bk.later ?_ (by assumption)) | (with_reducible refine Bk.grown ?_ (by assumption) (by first | omega | (simp; done) | (simp; omega))) | (exact SetTo.mk (by with_reducible rfl)) | (exact SetTo.mk (by simp))))
        have hgr2 : w.grownBy w2 (some R) := by (repeat (first | (with_reducible assumption) | (with_reducible exact grownBy_refl _ _) | (with_reducible refine gr_alloc ?_ _) | (with_reducible refine gr_set (by first | omega | (simp; done) | (simp; omega)) ?_ _) | (with_reducible refine gr_drew ?_) | (with_reducible refine gr_drewN ?_ _) | (with_reducible refine gr_after ?_ (by assumption)) | (with_reducible refine gr_below ?_ (by assumption))))
        have hsz2 := hgr2.size
        clear hg2
        have hRl2 := hR2.lt
        clear L_1 L1q0 L1q1 L1q2 L1q3 L1q4 L1q5 L1q6 L1q7 L1q8 L1q9 L1q10 L1qf B_1 B1q0 B1q1 B1q2 B1qf Z_1 Z1q0 Z1q1 Z1q2 Z1qf X_1 X1q0 X1q1 X1q2 X1qf hgr1 hR1
        have Lz2 := L_2.lt
        obtain ⟨⟨L2q0, L2q1, L2q2, L2q3, L2q4, L2q5, L2q6, L2q7, L2q8, L2q9, L2q10⟩, L2qf⟩ := L_2.c11
        have Bz2 := B_2.lt
        obtain ⟨⟨B2q0, B2q1, B2q2⟩, B2qf⟩ := B_2.c3
        have Zz2 := Z_2.lt
        obtain ⟨⟨Z2q0, Z2q1, Z2q2⟩, Z2qf⟩ := Z_2.c3
        have Xz2 := X_2.lt
        obtain ⟨⟨X2q0, X2q1, X2q2⟩, X2qf⟩ := X_2.c3
        go_wp2_with fail
        refine (l12Follows_any l b ⟨x3 - 1, 1, false⟩ _ _ _ _ _ h0 h1 hb).mono ?_
        rintro e w3 ⟨rfl, hb3⟩
        have L_3 : Bk w3 (w.heap.size) 95 #[.int .i64 l.id, .int .i64 l.ticks, .int .i64 l.start.x, .int .i64 l.start.y, .slice A l.walls.length c, .slice A' l.gates.length c', .int .i64 l.fin.lo.x, .int .i64 l.fin.lo.y, .int .i64 l.fin.hi.x, .int .i64 l.fin.hi.y, .int .i64 l.bans] := by (repeat (first | (with_reducible assumption) | (with_reducible exact Bk.new _ _ _ (by simp; done)) | (with_reducible refine Bk.alloc ?_ _) | (with_reducible refine Bk.drew ?_) | (with_reducible refine Bk.drewN ?_ _) | (with_reducible apply Bk.set') | (with_reducible refine Bk.far ?_ (by first | omega | (simp; done) | (simp; omega)) _) | (with_reducible refine Bk.later ?_ (by assumption)) | (with_reducible refine Bk.grown ?_ (by assumption) (by first | omega | (simp; done) | (simp; omega))) | (exact SetTo.mk (by with_reducible rfl)) | (exact SetTo.mk (by simp))))
        have B_3 : Bk w3 (w.heap.size + 1) 60 #[.int .i64 b.s, .int .i64 b.p, .bool b.z] := by (repeat (first | (with_reducible assumption) | (with_reducible exact Bk.new _ _ _ (by simp; done)) | (with_reducible refine Bk.alloc ?_ _) | (with_reducible refine Bk.drew ?_) | (with_reducible refine Bk.drewN ?_ _) | (with_reducible apply Bk.set') | (with_reducible refine Bk.far ?_ (by first | omega | (simp; done) | (simp; omega)) _) | (with_reducible refine Bk.later ?_ (by assumption)) | (with_reducible refine Bk.grown ?_ (by assumption) (by first | omega | (simp; done) | (simp; omega))) | (exact SetTo.mk (by with_reducible rfl)) | (exact SetTo.mk (by simp))))
        have Z_3 : Bk w3 (w.heap.size + 1 + 1) 60 #[.int .i64 0, .int .i64 0, .bool false] := by (repeat (first | (with_reducible assumption) | (with_reducible exact Bk.new _ _ _ (by simp; done)) | (with_reducible refine Bk.alloc ?_ _) | (with_reducible refine Bk.drew ?_) | (with_reducible refine Bk.drewN ?_ _) | (with_reducible apply Bk.set') | (with_reducible refine Bk.far ?_ (by first | omega | (simp; done) | (simp; omega)) _) | (with_reducible refine Bk.later ?_ (by assumption)) | (with_reducible refine Bk.grown ?_ (by assumption) (by first | omega | (simp; done) | (simp; omega))) | (exact SetTo.mk (by with_reducible rfl)) | (exact SetTo.mk (by simp))))
        have X_3 : Bk w3 (w.heap.size + 1 + 1 + 1) 60 #[.int .i64 (x3 - 1), .int .i64 1, .bool false] := by (repeat (first | (with_reducible assumption) | (with_reducible exact Bk.new _ _ _ (by simp; done)) | (with_reducible refine Bk.alloc ?_ _) | (with_reducible refine Bk.drew ?_) | (with_reducible refine Bk.drewN ?_ _) | (with_reducible apply Bk.set') | (with_reducible refine Bk.far ?_ (by first | omega | (simp; done) | (simp; omega)) _) | (with_reducible refine Bk.later ?_ (by assumption)) | (with_reducible refine Bk.grown ?_ (by assumption) (by first | omega | (simp; done) | (simp; omega))) | (exact SetTo.mk (by with_reducible rfl)) | (exact SetTo.mk (by simp))))
        have hgr3 : w.grownBy w3 (some R) := by (repeat (first | (with_reducible assumption) | (with_reducible exact grownBy_refl _ _) | (with_reducible refine gr_alloc ?_ _) | (with_reducible refine gr_set (by first | omega | (simp; done) | (simp; omega)) ?_ _) | (with_reducible refine gr_drew ?_) | (with_reducible refine gr_drewN ?_ _) | (with_reducible refine gr_after ?_ (by assumption)) | (with_reducible refine gr_below ?_ (by assumption))))
        have hsz3 := hgr3.size
        have hR3 : RdL w3 R (n + 2) := by (repeat (first | (with_reducible assumption) | (with_reducible refine RdL.alloc ?_ _) | (with_reducible refine RdL.drew ?_) | (with_reducible refine RdL.drewN ?_ _) | (with_reducible refine RdL.far ?_ (by first | omega | (simp; done) | (simp; omega)) _) | (with_reducible refine RdL.later ?_ (by assumption))))
        clear hb3
        have hRl3 := hR3.lt
        clear L_2 L2q0 L2q1 L2q2 L2q3 L2q4 L2q5 L2q6 L2q7 L2q8 L2q9 L2q10 L2qf B_2 B2q0 B2q1 B2q2 B2qf Z_2 Z2q0 Z2q1 Z2q2 Z2qf X_2 X2q0 X2q1 X2q2 X2qf hgr2 hR2
        have Lz3 := L_3.lt
        obtain ⟨⟨L3q0, L3q1, L3q2, L3q3, L3q4, L3q5, L3q6, L3q7, L3q8, L3q9, L3q10⟩, L3qf⟩ := L_3.c11
        have Bz3 := B_3.lt
        obtain ⟨⟨B3q0, B3q1, B3q2⟩, B3qf⟩ := B_3.c3
        have Zz3 := Z_3.lt
        obtain ⟨⟨Z3q0, Z3q1, Z3q2⟩, Z3qf⟩ := Z_3.c3
        have Xz3 := X_3.lt
        obtain ⟨⟨X3q0, X3q1, X3q2⟩, X3qf⟩ := X_3.c3
        cases hF : folB l b.s ⟨x3 - 1, 1, false⟩
        · go_wp2
          exact bodyPost_ret (v := .agg #[.int .i64 0, .int .i64 1, .bool false]) (by simp [results, Try.results91, go_sem, *]) rfl ⟨⟨0, 1, false⟩, rfl, by decide, (show RdL _ R (n + 2) by (repeat (first | (with_reducible assumption) | (with_reducible refine RdL.alloc ?_ _) | (with_reducible refine RdL.drew ?_) | (with_reducible refine RdL.drewN ?_ _) | (with_reducible refine RdL.far ?_ (by first | omega | (simp; done) | (simp; omega)) _) | (with_reducible refine RdL.later ?_ (by assumption))))).more (by omega), by (repeat (first | (with_reducible assumption) | (with_reducible exact grownBy_refl _ _) | (with_reducible refine gr_alloc ?_ _) | (with_reducible refine gr_set (by first | omega | (simp; done) | (simp; omega)) ?_ _) | (with_reducible refine gr_drew ?_) | (with_reducible refine gr_drewN ?_ _) | (with_reducible refine gr_after ?_ (by assumption)) | (with_reducible refine gr_below ?_ (by assumption))))⟩
        · have hOk := Lib.hid (folB_inp hF)
          go_wp2
          exact bodyPost_ret (v := .agg #[.int .i64 (x3 - 1), .int .i64 1, .bool false]) (by simp [results, Try.results91, go_sem, *]) rfl ⟨⟨x3 - 1, 1, false⟩, rfl, hOk.out, (show RdL _ R (n + 2) by (repeat (first | (with_reducible assumption) | (with_reducible refine RdL.alloc ?_ _) | (with_reducible refine RdL.drew ?_) | (with_reducible refine RdL.drewN ?_ _) | (with_reducible refine RdL.far ?_ (by first | omega | (simp; done) | (simp; omega)) _) | (with_reducible refine RdL.later ?_ (by assumption))))).more (by omega), by (repeat (first | (with_reducible assumption) | (with_reducible exact grownBy_refl _ _) | (with_reducible refine gr_alloc ?_ _) | (with_reducible refine gr_set (by first | omega | (simp; done) | (simp; omega)) ?_ _) | (with_reducible refine gr_drew ?_) | (with_reducible refine gr_drewN ?_ _) | (with_reducible refine gr_after ?_ (by assumption)) | (with_reducible refine gr_below ?_ (by assumption))))⟩
      · have hxb2 : (x2 == 2) = false := by simpa using hx2
        by_cases hx3 : x2 = 3
        · subst hx3
          go_wp2_with fail
          refine (pick_n R (n + 1) 10 _ (by (repeat (first | (with_reducible assumption) | (with_reducible refine RdL.alloc ?_ _) | (with_reducible refine RdL.drew ?_) | (with_reducible refine RdL.drewN ?_ _) | (with_reducible refine RdL.far ?_ (by first | omega | (simp; done) | (simp; omega)) _) | (with_reducible refine RdL.later ?_ (by assumption))))) (by omega) (by omega) (by omega)).mono ?_
          rintro e w2 ⟨x3, rfl, x3_0, x3_1, hR2, hg2⟩
          replace hR2 : RdL w2 R (n + 2) := hR2.more (by omega)
          have L_2 : Bk w2 (w.heap.size) 95 #[.int .i64 l.id, .int .i64 l.ticks, .int .i64 l.start.x, .int .i64 l.start.y, .slice A l.walls.length c, .slice A' l.gates.length c', .int .i64 l.fin.lo.x, .int .i64 l.fin.lo.y, .int .i64 l.fin.hi.x, .int .i64 l.fin.hi.y, .int .i64 l.bans] := by (repeat (first | (with_reducible assumption) | (with_reducible exact Bk.new _ _ _ (by simp; done)) | (with_reducible refine Bk.alloc ?_ _) | (with_reducible refine Bk.drew ?_) | (with_reducible refine Bk.drewN ?_ _) | (with_reducible apply Bk.set') | (with_reducible refine Bk.far ?_ (by first | omega | (simp; done) | (simp; omega)) _) | (with_reducible refine Bk.later ?_ (by assumption)) | (with_reducible refine Bk.grown ?_ (by assumption) (by first | omega | (simp; done) | (simp; omega))) | (exact SetTo.mk (by with_reducible rfl)) | (exact SetTo.mk (by simp))))
          have B_2 : Bk w2 (w.heap.size + 1) 60 #[.int .i64 b.s, .int .i64 b.p, .bool b.z] := by (repeat (first | (with_reducible assumption) | (with_reducible exact Bk.new _ _ _ (by simp; done)) | (with_reducible refine Bk.alloc ?_ _) | (with_reducible refine Bk.drew ?_) | (with_reducible refine Bk.drewN ?_ _) | (with_reducible apply Bk.set') | (with_reducible refine Bk.far ?_ (by first | omega | (simp; done) | (simp; omega)) _) | (with_reducible refine Bk.later ?_ (by assumption)) | (with_reducible refine Bk.grown ?_ (by assumption) (by first | omega | (simp; done) | (simp; omega))) | (exact SetTo.mk (by with_reducible rfl)) | (exact SetTo.mk (by simp))))
          have Z_2 : Bk w2 (w.heap.size + 1 + 1) 60 #[.int .i64 0, .int .i64 0, .bool false] := by (repeat (first | (with_reducible assumption) | (with_reducible exact Bk.new _ _ _ (by simp; done)) | (with_reducible refine Bk.alloc ?_ _) | (with_reducible refine Bk.drew ?_) | (with_reducible refine Bk.drewN ?_ _) | (with_reducible apply Bk.set') | (with_reducible refine Bk.far ?_ (by first | omega | (simp; done) | (simp; omega)) _) | (with_reducible refine Bk.later ?_ (by assumption)) | (with_reducible refine Bk.grown ?_ (by assumption) (by first | omega | (simp; done) | (simp; omega))) | (exact SetTo.mk (by with_reducible rfl)) | (exact SetTo.mk (by simp))))
          have X_2 : Bk w2 (w.heap.size + 1 + 1 + 1) 60 #[.int .i64 0, .int .i64 1, .bool false] := by (repeat (first | (with_reducible assumption) | (with_reducible exact Bk.new _ _ _ (by simp; done)) | (with_reducible refine Bk.alloc ?_ _) | (with_reducible refine Bk.drew ?_) | (with_reducible refine Bk.drewN ?_ _) | (with_reducible apply Bk.set') | (with_reducible refine Bk.far ?_ (by first | omega | (simp; done) | (simp; omega)) _) | (with_reducible refine Bk.later ?_ (by assumption)) | (with_reducible refine Bk.grown ?_ (by assumption) (by first | omega | (simp; done) | (simp; omega))) | (exact SetTo.mk (by with_reducible rfl)) | (exact SetTo.mk (by simp))))
          have hgr2 : w.grownBy w2 (some R) := by (repeat (first | (with_reducible assumption) | (with_reducible exact grownBy_refl _ _) | (with_reducible refine gr_alloc ?_ _) | (with_reducible refine gr_set (by first | omega | (simp; done) | (simp; omega)) ?_ _) | (with_reducible refine gr_drew ?_) | (with_reducible refine gr_drewN ?_ _) | (with_reducible refine gr_after ?_ (by assumption)) | (with_reducible refine gr_below ?_ (by assumption))))
          have hsz2 := hgr2.size
          clear hg2
          have hRl2 := hR2.lt
          clear L_1 L1q0 L1q1 L1q2 L1q3 L1q4 L1q5 L1q6 L1q7 L1q8 L1q9 L1q10 L1qf B_1 B1q0 B1q1 B1q2 B1qf Z_1 Z1q0 Z1q1 Z1q2 Z1qf X_1 X1q0 X1q1 X1q2 X1qf hgr1 hR1
          have Lz2 := L_2.lt
          obtain ⟨⟨L2q0, L2q1, L2q2, L2q3, L2q4, L2q5, L2q6, L2q7, L2q8, L2q9, L2q10⟩, L2qf⟩ := L_2.c11
          have Bz2 := B_2.lt
          obtain ⟨⟨B2q0, B2q1, B2q2⟩, B2qf⟩ := B_2.c3
          have Zz2 := Z_2.lt
          obtain ⟨⟨Z2q0, Z2q1, Z2q2⟩, Z2qf⟩ := Z_2.c3
          have Xz2 := X_2.lt
          obtain ⟨⟨X2q0, X2q1, X2q2⟩, X2qf⟩ := X_2.c3
          go_wp2_with fail
          refine (specInputOf_any x3 _).mono ?_
          rintro e w3 ⟨rfl, hb3⟩
          have L_3 : Bk w3 (w.heap.size) 95 #[.int .i64 l.id, .int .i64 l.ticks, .int .i64 l.start.x, .int .i64 l.start.y, .slice A l.walls.length c, .slice A' l.gates.length c', .int .i64 l.fin.lo.x, .int .i64 l.fin.lo.y, .int .i64 l.fin.hi.x, .int .i64 l.fin.hi.y, .int .i64 l.bans] := by (repeat (first | (with_reducible assumption) | (with_reducible exact Bk.new _ _ _ (by simp; done)) | (with_reducible refine Bk.alloc ?_ _) | (with_reducible refine Bk.drew ?_) | (with_reducible refine Bk.drewN ?_ _) | (with_reducible apply Bk.set') | (with_reducible refine Bk.far ?_ (by first | omega | (simp; done) | (simp; omega)) _) | (with_reducible refine Bk.later ?_ (by assumption)) | (with_reducible refine Bk.grown ?_ (by assumption) (by first | omega | (simp; done) | (simp; omega))) | (exact SetTo.mk (by with_reducible rfl)) | (exact SetTo.mk (by simp))))
          have B_3 : Bk w3 (w.heap.size + 1) 60 #[.int .i64 b.s, .int .i64 b.p, .bool b.z] := by (repeat (first | (with_reducible assumption) | (with_reducible exact Bk.new _ _ _ (by simp; done)) | (with_reducible refine Bk.alloc ?_ _) | (with_reducible refine Bk.drew ?_) | (with_reducible refine Bk.drewN ?_ _) | (with_reducible apply Bk.set') | (with_reducible refine Bk.far ?_ (by first | omega | (simp; done) | (simp; omega)) _) | (with_reducible refine Bk.later ?_ (by assumption)) | (with_reducible refine Bk.grown ?_ (by assumption) (by first | omega | (simp; done) | (simp; omega))) | (exact SetTo.mk (by with_reducible rfl)) | (exact SetTo.mk (by simp))))
          have Z_3 : Bk w3 (w.heap.size + 1 + 1) 60 #[.int .i64 0, .int .i64 0, .bool false] := by (repeat (first | (with_reducible assumption) | (with_reducible exact Bk.new _ _ _ (by simp; done)) | (with_reducible refine Bk.alloc ?_ _) | (with_reducible refine Bk.drew ?_) | (with_reducible refine Bk.drewN ?_ _) | (with_reducible apply Bk.set') | (with_reducible refine Bk.far ?_ (by first | omega | (simp; done) | (simp; omega)) _) | (with_reducible refine Bk.later ?_ (by assumption)) | (with_reducible refine Bk.grown ?_ (by assumption) (by first | omega | (simp; done) | (simp; omega))) | (exact SetTo.mk (by with_reducible rfl)) | (exact SetTo.mk (by simp))))
          have X_3 : Bk w3 (w.heap.size + 1 + 1 + 1) 60 #[.int .i64 0, .int .i64 1, .bool false] := by (repeat (first | (with_reducible assumption) | (with_reducible exact Bk.new _ _ _ (by simp; done)) | (with_reducible refine Bk.alloc ?_ _) | (with_reducible refine Bk.drew ?_) | (with_reducible refine Bk.drewN ?_ _) | (with_reducible apply Bk.set') | (with_reducible refine Bk.far ?_ (by first | omega | (simp; done) | (simp; omega)) _) | (with_reducible refine Bk.later ?_ (by assumption)) | (with_reducible refine Bk.grown ?_ (by assumption) (by first | omega | (simp; done) | (simp; omega))) | (exact SetTo.mk (by with_reducible rfl)) | (exact SetTo.mk (by simp))))
          have hgr3 : w.grownBy w3 (some R) := by (repeat (first | (with_reducible assumption) | (with_reducible exact grownBy_refl _ _) | (with_reducible refine gr_alloc ?_ _) | (with_reducible refine gr_set (by first | omega | (simp; done) | (simp; omega)) ?_ _) | (with_reducible refine gr_drew ?_) | (with_reducible refine gr_drewN ?_ _) | (with_reducible refine gr_after ?_ (by assumption)) | (with_reducible refine gr_below ?_ (by assumption))))
          have hsz3 := hgr3.size
          have hR3 : RdL w3 R (n + 2) := by (repeat (first | (with_reducible assumption) | (with_reducible refine RdL.alloc ?_ _) | (with_reducible refine RdL.drew ?_) | (with_reducible refine RdL.drewN ?_ _) | (with_reducible refine RdL.far ?_ (by first | omega | (simp; done) | (simp; omega)) _) | (with_reducible refine RdL.later ?_ (by assumption))))
          clear hb3
          have hRl3 := hR3.lt
          clear L_2 L2q0 L2q1 L2q2 L2q3 L2q4 L2q5 L2q6 L2q7 L2q8 L2q9 L2q10 L2qf B_2 B2q0 B2q1 B2q2 B2qf Z_2 Z2q0 Z2q1 Z2q2 Z2qf X_2 X2q0 X2q1 X2q2 X2qf hgr2 hR2
          have Lz3 := L_3.lt
          obtain ⟨⟨L3q0, L3q1, L3q2, L3q3, L3q4, L3q5, L3q6, L3q7, L3q8, L3q9, L3q10⟩, L3qf⟩ := L_3.c11
          have Bz3 := B_3.lt
          obtain ⟨⟨B3q0, B3q1, B3q2⟩, B3qf⟩ := B_3.c3
          have Zz3 := Z_3.lt
          obtain ⟨⟨Z3q0, Z3q1, Z3q2⟩, Z3qf⟩ := Z_3.c3
          have Xz3 := X_3.lt
          obtain ⟨⟨X3q0, X3q1, X3q2⟩, X3qf⟩ := X_3.c3
          generalize inpOf x3 = xi at *
          obtain ⟨xs, xp, xz⟩ := xi
          go_wp2_with fail
          refine (l12Follows_any l b ⟨xs, xp, xz⟩ _ _ _ _ _ h0 h1 hb).mono ?_
          rintro e w4 ⟨rfl, hb4⟩
          have L_4 : Bk w4 (w.heap.size) 95 #[.int .i64 l.id, .int .i64 l.ticks, .int .i64 l.start.x, .int .i64 l.start.y, .slice A l.walls.length c, .slice A' l.gates.length c', .int .i64 l.fin.lo.x, .int .i64 l.fin.lo.y, .int .i64 l.fin.hi.x, .int .i64 l.fin.hi.y, .int .i64 l.bans] := by (repeat (first | (with_reducible assumption) | (with_reducible exact Bk.new _ _ _ (by simp; done)) | (with_reducible refine Bk.alloc ?_ _) | (with_reducible refine Bk.drew ?_) | (with_reducible refine Bk.drewN ?_ _) | (with_reducible apply Bk.set') | (with_reducible refine Bk.far ?_ (by first | omega | (simp; done) | (simp; omega)) _) | (with_reducible refine Bk.later ?_ (by assumption)) | (with_reducible refine Bk.grown ?_ (by assumption) (by first | omega | (simp; done) | (simp; omega))) | (exact SetTo.mk (by with_reducible rfl)) | (exact SetTo.mk (by simp))))
          have B_4 : Bk w4 (w.heap.size + 1) 60 #[.int .i64 b.s, .int .i64 b.p, .bool b.z] := by (repeat (first | (with_reducible assumption) | (with_reducible exact Bk.new _ _ _ (by simp; done)) | (with_reducible refine Bk.alloc ?_ _) | (with_reducible refine Bk.drew ?_) | (with_reducible refine Bk.drewN ?_ _) | (with_reducible apply Bk.set') | (with_reducible refine Bk.far ?_ (by first | omega | (simp; done) | (simp; omega)) _) | (with_reducible refine Bk.later ?_ (by assumption)) | (with_reducible refine Bk.grown ?_ (by assumption) (by first | omega | (simp; done) | (simp; omega))) | (exact SetTo.mk (by with_reducible rfl)) | (exact SetTo.mk (by simp))))
          have Z_4 : Bk w4 (w.heap.size + 1 + 1) 60 #[.int .i64 0, .int .i64 0, .bool false] := by (repeat (first | (with_reducible assumption) | (with_reducible exact Bk.new _ _ _ (by simp; done)) | (with_reducible refine Bk.alloc ?_ _) | (with_reducible refine Bk.drew ?_) | (with_reducible refine Bk.drewN ?_ _) | (with_reducible apply Bk.set') | (with_reducible refine Bk.far ?_ (by first | omega | (simp; done) | (simp; omega)) _) | (with_reducible refine Bk.later ?_ (by assumption)) | (with_reducible refine Bk.grown ?_ (by assumption) (by first | omega | (simp; done) | (simp; omega))) | (exact SetTo.mk (by with_reducible rfl)) | (exact SetTo.mk (by simp))))
          have X_4 : Bk w4 (w.heap.size + 1 + 1 + 1) 60 #[.int .i64 xs, .int .i64 xp, .bool xz] := by (repeat (first | (with_reducible assumption) | (with_reducible exact Bk.new _ _ _ (by simp; done)) | (with_reducible refine Bk.alloc ?_ _) | (with_reducible refine Bk.drew ?_) | (with_reducible refine Bk.drewN ?_ _) | (with_reducible apply Bk.set') | (with_reducible refine Bk.far ?_ (by first | omega | (simp; done) | (simp; omega)) _) | (with_reducible refine Bk.later ?_ (by assumption)) | (with_reducible refine Bk.grown ?_ (by assumption) (by first | omega | (simp; done) | (simp; omega))) | (exact SetTo.mk (by with_reducible rfl)) | (exact SetTo.mk (by simp))))
          have hgr4 : w.grownBy w4 (some R) := by (repeat (first | (with_reducible assumption) | (with_reducible exact grownBy_refl _ _) | (with_reducible refine gr_alloc ?_ _) | (with_reducible refine gr_set (by first | omega | (simp; done) | (simp; omega)) ?_ _) | (with_reducible refine gr_drew ?_) | (with_reducible refine gr_drewN ?_ _) | (with_reducible refine gr_after ?_ (by assumption)) | (with_reducible refine gr_below ?_ (by assumption))))
          have hsz4 := hgr4.size
          have hR4 : RdL w4 R (n + 2) := by (repeat (first | (with_reducible assumption) | (with_reducible refine RdL.alloc ?_ _) | (with_reducible refine RdL.drew ?_) | (with_reducible refine RdL.drewN ?_ _) | (with_reducible refine RdL.far ?_ (by first | omega | (simp; done) | (simp; omega)) _) | (with_reducible refine RdL.later ?_ (by assumption))))
          clear hb4
          have hRl4 := hR4.lt
          clear L_3 L3q0 L3q1 L3q2 L3q3 L3q4 L3q5 L3q6 L3q7 L3q8 L3q9 L3q10 L3qf B_3 B3q0 B3q1 B3q2 B3qf Z_3 Z3q0 Z3q1 Z3q2 Z3qf X_3 X3q0 X3q1 X3q2 X3qf hgr3 hR3
          have Lz4 := L_4.lt
          obtain ⟨⟨L4q0, L4q1, L4q2, L4q3, L4q4, L4q5, L4q6, L4q7, L4q8, L4q9, L4q10⟩, L4qf⟩ := L_4.c11
          have Bz4 := B_4.lt
          obtain ⟨⟨B4q0, B4q1, B4q2⟩, B4qf⟩ := B_4.c3
          have Zz4 := Z_4.lt
          obtain ⟨⟨Z4q0, Z4q1, Z4q2⟩, Z4qf⟩ := Z_4.c3
          have Xz4 := X_4.lt
          obtain ⟨⟨X4q0, X4q1, X4q2⟩, X4qf⟩ := X_4.c3
          cases hF : folB l b.s ⟨xs, xp, xz⟩
          · go_wp2
            exact bodyPost_ret (v := .agg #[.int .i64 0, .int .i64 1, .bool false]) (by simp [results, Try.results91, go_sem, *]) rfl ⟨⟨0, 1, false⟩, rfl, by decide, (show RdL _ R (n + 2) by (repeat (first | (with_reducible assumption) | (with_reducible refine RdL.alloc ?_ _) | (with_reducible refine RdL.drew ?_) | (with_reducible refine RdL.drewN ?_ _) | (with_reducible refine RdL.far ?_ (by first | omega | (simp; done) | (simp; omega)) _) | (with_reducible refine RdL.later ?_ (by assumption))))).more (by omega), by (repeat (first | (with_reducible assumption) | (with_reducible exact grownBy_refl _ _) | (with_reducible refine gr_alloc ?_ _) | (with_reducible refine gr_set (by first | omega | (simp; done) | (simp; omega)) ?_ _) | (with_reducible refine gr_drew ?_) | (with_reducible refine gr_drewN ?_ _) | (with_reducible refine gr_after ?_ (by assumption)) | (with_reducible refine gr_below ?_ (by assumption))))⟩
          · have hOk := Lib.hid (folB_inp hF)
            go_wp2
            exact bodyPost_ret (v := .agg #[.int .i64 xs, .int .i64 xp, .bool xz]) (by simp [results, Try.results91, go_sem, *]) rfl ⟨⟨xs, xp, xz⟩, rfl, hOk.out, (show RdL _ R (n + 2) by (repeat (first | (with_reducible assumption) | (with_reducible refine RdL.alloc ?_ _) | (with_reducible refine RdL.drew ?_) | (with_reducible refine RdL.drewN ?_ _) | (with_reducible refine RdL.far ?_ (by first | omega | (simp; done) | (simp; omega)) _) | (with_reducible refine RdL.later ?_ (by assumption))))).more (by omega), by (repeat (first | (with_reducible assumption) | (with_reducible exact grownBy_refl _ _) | (with_reducible refine gr_alloc ?_ _) | (with_reducible refine gr_set (by first | omega | (simp; done) | (simp; omega)) ?_ _) | (with_reducible refine gr_drew ?_) | (with_reducible refine gr_drewN ?_ _) | (with_reducible refine gr_after ?_ (by assumption)) | (with_reducible refine gr_below ?_ (by assumption))))⟩
        · have hxb3 : (x2 == 3) = false := by simpa using hx3
          go_wp2_with fail
          refine (l12Follows_any l b ⟨0, 1, false⟩ _ _ _ _ _ h0 h1 hb).mono ?_
          rintro e w2 ⟨rfl, hb2⟩
          have L_2 : Bk w2 (w.heap.size) 95 #[.int .i64 l.id, .int .i64 l.ticks, .int .i64 l.start.x, .int .i64 l.start.y, .slice A l.walls.length c, .slice A' l.gates.length c', .int .i64 l.fin.lo.x, .int .i64 l.fin.lo.y, .int .i64 l.fin.hi.x, .int .i64 l.fin.hi.y, .int .i64 l.bans] := by (repeat (first | (with_reducible assumption) | (with_reducible exact Bk.new _ _ _ (by simp; done)) | (with_reducible refine Bk.alloc ?_ _) | (with_reducible refine Bk.drew ?_) | (with_reducible refine Bk.drewN ?_ _) | (with_reducible apply Bk.set') | (with_reducible refine Bk.far ?_ (by first | omega | (simp; done) | (simp; omega)) _) | (with_reducible refine Bk.later ?_ (by assumption)) | (with_reducible refine Bk.grown ?_ (by assumption) (by first | omega | (simp; done) | (simp; omega))) | (exact SetTo.mk (by with_reducible rfl)) | (exact SetTo.mk (by simp))))
          have B_2 : Bk w2 (w.heap.size + 1) 60 #[.int .i64 b.s, .int .i64 b.p, .bool b.z] := by (repeat (first | (with_reducible assumption) | (with_reducible exact Bk.new _ _ _ (by simp; done)) | (with_reducible refine Bk.alloc ?_ _) | (with_reducible refine Bk.drew ?_) | (with_reducible refine Bk.drewN ?_ _) | (with_reducible apply Bk.set') | (with_reducible refine Bk.far ?_ (by first | omega | (simp; done) | (simp; omega)) _) | (with_reducible refine Bk.later ?_ (by assumption)) | (with_reducible refine Bk.grown ?_ (by assumption) (by first | omega | (simp; done) | (simp; omega))) | (exact SetTo.mk (by with_reducible rfl)) | (exact SetTo.mk (by simp))))
          have Z_2 : Bk w2 (w.heap.size + 1 + 1) 60 #[.int .i64 0, .int .i64 0, .bool false] := by (repeat (first | (with_reducible assumption) | (with_reducible exact Bk.new _ _ _ (by simp; done)) | (with_reducible refine Bk.alloc ?_ _) | (with_reducible refine Bk.drew ?_) | (with_reducible refine Bk.drewN ?_ _) | (with_reducible apply Bk.set') | (with_reducible refine Bk.far ?_ (by first | omega | (simp; done) | (simp; omega)) _) | (with_reducible refine Bk.later ?_ (by assumption)) | (with_reducible refine Bk.grown ?_ (by assumption) (by first | omega | (simp; done) | (simp; omega))) | (exact SetTo.mk (by with_reducible rfl)) | (exact SetTo.mk (by simp))))
          have X_2 : Bk w2 (w.heap.size + 1 + 1 + 1) 60 #[.int .i64 0, .int .i64 1, .bool false] := by (repeat (first | (with_reducible assumption) | (with_reducible exact Bk.new _ _ _ (by simp; done)) | (with_reducible refine Bk.alloc ?_ _) | (with_reducible refine Bk.drew ?_) | (with_reducible refine Bk.drewN ?_ _) | (with_reducible apply Bk.set') | (with_reducible refine Bk.far ?_ (by first | omega | (simp; done) | (simp; omega)) _) | (with_reducible refine Bk.later ?_ (by assumption)) | (with_reducible refine Bk.grown ?_ (by assumption) (by first | omega | (simp; done) | (simp; omega))) | (exact SetTo.mk (by with_reducible rfl)) | (exact SetTo.mk (by simp))))
          have hgr2 : w.grownBy w2 (some R) := by (repeat (first | (with_reducible assumption) | (with_reducible exact grownBy_refl _ _) | (with_reducible refine gr_alloc ?_ _) | (with_reducible refine gr_set (by first | omega | (simp; done) | (simp; omega)) ?_ _) | (with_reducible refine gr_drew ?_) | (with_reducible refine gr_drewN ?_ _) | (with_reducible refine gr_after ?_ (by assumption)) | (with_reducible refine gr_below ?_ (by assumption))))
          have hsz2 := hgr2.size
          have hR2 : RdL w2 R (n + 1) := by (repeat (first | (with_reducible assumption) | (with_reducible refine RdL.alloc ?_ _) | (with_reducible refine RdL.drew ?_) | (with_reducible refine RdL.drewN ?_ _) | (with_reducible refine RdL.far ?_ (by first | omega | (simp; done) | (simp; omega)) _) | (with_reducible refine RdL.later ?_ (by assumption))))
          clear hb2
          have hRl2 := hR2.lt
          clear L_1 L1q0 L1q1 L1q2 L1q3 L1q4 L1q5 L1q6 L1q7 L1q8 L1q9 L1q10 L1qf B_1 B1q0 B1q1 B1q2 B1qf Z_1 Z1q0 Z1q1 Z1q2 Z1qf X_1 X1q0 X1q1 X1q2 X1qf hgr1 hR1
          have Lz2 := L_2.lt
          obtain ⟨⟨L2q0, L2q1, L2q2, L2q3, L2q4, L2q5, L2q6, L2q7, L2q8, L2q9, L2q10⟩, L2qf⟩ := L_2.c11
          have Bz2 := B_2.lt
          obtain ⟨⟨B2q0, B2q1, B2q2⟩, B2qf⟩ := B_2.c3
          have Zz2 := Z_2.lt
          obtain ⟨⟨Z2q0, Z2q1, Z2q2⟩, Z2qf⟩ := Z_2.c3
          have Xz2 := X_2.lt
          obtain ⟨⟨X2q0, X2q1, X2q2⟩, X2qf⟩ := X_2.c3
          cases hF : folB l b.s ⟨0, 1, false⟩
          · go_wp2
            exact bodyPost_ret (v := .agg #[.int .i64 0, .int .i64 1, .bool false]) (by simp [results, Try.results91, go_sem, *]) rfl ⟨⟨0, 1, false⟩, rfl, by decide, (show RdL _ R (n + 1) by (repeat (first | (with_reducible assumption) | (with_reducible refine RdL.alloc ?_ _) | (with_reducible refine RdL.drew ?_) | (with_reducible refine RdL.drewN ?_ _) | (with_reducible refine RdL.far ?_ (by first | omega | (simp; done) | (simp; omega)) _) | (with_reducible refine RdL.later ?_ (by assumption))))).more (by omega), by (repeat (first | (with_reducible assumption) | (with_reducible exact grownBy_refl _ _) | (with_reducible refine gr_alloc ?_ _) | (with_reducible refine gr_set (by first | omega | (simp; done) | (simp; omega)) ?_ _) | (with_reducible refine gr_drew ?_) | (with_reducible refine gr_drewN ?_ _) | (with_reducible refine gr_after ?_ (by assumption)) | (with_reducible refine gr_below ?_ (by assumption))))⟩
          · have hOk := Lib.hid (folB_inp hF)
            go_wp2
            exact bodyPost_ret (v := .agg #[.int .i64 0, .int .i64 1, .bool false]) (by simp [results, Try.results91, go_sem, *]) rfl ⟨⟨0, 1, false⟩, rfl, hOk.out, (show RdL _ R (n + 1) by (repeat (first | (with_reducible assumption) | (with_reducible refine RdL.alloc ?_ _) | (with_reducible refine RdL.drew ?_) | (with_reducible refine RdL.drewN ?_ _) | (with_reducible refine RdL.far ?_ (by first | omega | (simp; done) | (simp; omega)) _) | (with_reducible refine RdL.later ?_ (by assumption))))).more (by omega), by (repeat (first | (with_reducible assumption) | (with_reducible exact grownBy_refl _ _) | (with_reducible refine gr_alloc ?_ _) | (with_reducible refine gr_set (by first | omega | (simp; done) | (simp; omega)) ?_ _) | (with_reducible refine gr_drew ?_) | (with_reducible refine gr_drewN ?_ _) | (with_reducible refine gr_after ?_ (by assumption)) | (with_reducible refine gr_below ?_ (by assumption))))⟩
end Go.Proofs.Ytkendoffknjpiaa
