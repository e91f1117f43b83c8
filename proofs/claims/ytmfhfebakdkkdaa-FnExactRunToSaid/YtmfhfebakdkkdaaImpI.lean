/- The program's after. (Round B) -/
import Derived.Test.YtmfhfebakdkkdaaImpH
namespace Go.Proofs.Ytmfhfebakdkkdaa
open Go.ChangeShapes Go.WideShapes Go.ChangeAt Go.RowKit
theorem controlPause (xs xp : Int) (w : World) : Calls Try.prog 107 #[.agg #[.int .i64 xs, .int .i64 xp, .bool true]] w fun e w' => e = .returned (.iface 123 (.agg #[])) ∧ Below w.heap.size w w' := by
  go_enter Try.func107, Try.ntmps107
  go_wp2
  go_ret
  exact ⟨rfl, by (repeat (first | (with_reducible assumption) | (with_reducible exact Below.refl _ _) | (with_reducible refine below_alloc ?_ _) | (with_reducible refine below_setCell ?_ ?_ _; (simp <;> omega)) | (with_reducible refine below_drew ?_) | (with_reducible refine below_drewN ?_ _) | (with_reducible refine below_after ?_ (by assumption))))⟩
theorem controlDrive (xs xp : Int) (w : World) : Calls Try.prog 107 #[.agg #[.int .i64 xs, .int .i64 xp, .bool false]] w fun e w' => e = .returned (.iface 126 (.agg #[.int .i64 xs, .int .i64 xp])) ∧ Below w.heap.size w w' := by
  go_enter Try.func107, Try.ntmps107
  go_wp2
  go_ret
  exact ⟨rfl, by (repeat (first | (with_reducible assumption) | (with_reducible exact Below.refl _ _) | (with_reducible refine below_alloc ?_ _) | (with_reducible refine below_setCell ?_ ?_ _; (simp <;> omega)) | (with_reducible refine below_drew ?_) | (with_reducible refine below_drewN ?_ _) | (with_reducible refine below_after ?_ (by assumption))))⟩
theorem assertPP (w : World) : (Instr.typeAssert (.iface 123 (.agg #[])) 120 123 true).run Try.prog w = .ok (.tuple #[.agg #[], .bool true]) w := by kernel_rfl
theorem assertDP (w : World) (a b : Int) : (Instr.typeAssert (.iface 126 (.agg #[.int .i64 a, .int .i64 b])) 120 123 true).run Try.prog w = .ok (.tuple #[.agg #[], .bool false]) w := by kernel_rfl
theorem assertDD (w : World) (a b : Int) : (Instr.typeAssert (.iface 126 (.agg #[.int .i64 a, .int .i64 b])) 120 126 true).run Try.prog w = .ok (.tuple #[.agg #[.int .i64 a, .int .i64 b], .bool true]) w := by kernel_rfl
set_option maxRecDepth 100000 in
set_option maxHeartbeats 2000000 in
theorem after_stays (l : Lev) (s : St) (x : Inp) (A A' : Option Addr) (c c' : Nat) (w : World) (h : (s.dn || s.ov) = true) :
    Calls Try.prog 70 #[.agg #[.int .i64 l.id, .int .i64 l.ticks, .int .i64 l.start.x, .int .i64 l.start.y, .slice A l.walls.length c, .slice A' l.gates.length c', .int .i64 l.fin.lo.x, .int .i64 l.fin.lo.y, .int .i64 l.fin.hi.x, .int .i64 l.fin.hi.y, .int .i64 l.bans], .agg #[.int .i64 s.t, .int .i64 s.p.x, .int .i64 s.p.y, .int .i64 s.f.x, .int .i64 s.f.y, .int .i64 s.d, .int .i64 s.g, .bool s.dn, .bool s.ov], .agg #[.int .i64 x.s, .int .i64 x.p, .bool x.z]] w fun e w' => e = .returned (.agg #[.int .i64 (stepS l s x).t, .int .i64 (stepS l s x).p.x, .int .i64 (stepS l s x).p.y, .int .i64 (stepS l s x).f.x, .int .i64 (stepS l s x).f.y, .int .i64 (stepS l s x).d, .int .i64 (stepS l s x).g, .bool (stepS l s x).dn, .bool (stepS l s x).ov]) ∧ Below w.heap.size w w' := by
  have e : stepS l s x = s := by unfold stepS; rw [h]; rfl
  rw [e]
  clear e
  obtain ⟨t, p, f, d, g, dn, ov⟩ := s
  simp only at *
  cases dn
  · have hov : ov = true := by simpa using h
    subst hov
    clear h
    go_enter Try.func70, Try.ntmps70
    go_wp2
    refine bodyPost_ret (v := .agg #[.int .i64 t, .int .i64 p.x, .int .i64 p.y, .int .i64 f.x, .int .i64 f.y, .int .i64 d, .int .i64 g, .bool false, .bool true]) (by simp [results, Try.results70, go_sem, *]) rfl ⟨rfl, ?_⟩
    (repeat (first | (with_reducible assumption) | (with_reducible exact Below.refl _ _) | (with_reducible refine below_alloc ?_ _) | (with_reducible refine below_setCell ?_ ?_ _; (simp <;> omega)) | (with_reducible refine below_drew ?_) | (with_reducible refine below_drewN ?_ _) | (with_reducible refine below_after ?_ (by assumption))))
  · clear h
    go_enter Try.func70, Try.ntmps70
    go_wp2
    refine bodyPost_ret (v := .agg #[.int .i64 t, .int .i64 p.x, .int .i64 p.y, .int .i64 f.x, .int .i64 f.y, .int .i64 d, .int .i64 g, .bool true, .bool ov]) (by simp [results, Try.results70, go_sem, *]) rfl ⟨rfl, ?_⟩
    (repeat (first | (with_reducible assumption) | (with_reducible exact Below.refl _ _) | (with_reducible refine below_alloc ?_ _) | (with_reducible refine below_setCell ?_ ?_ _; (simp <;> omega)) | (with_reducible refine below_drew ?_) | (with_reducible refine below_drewN ?_ _) | (with_reducible refine below_after ?_ (by assumption))))
set_option maxRecDepth 100000 in
set_option maxHeartbeats 2000000 in
theorem after_pause (l : Lev) (s : St) (x : Inp) (A A' : Option Addr) (c c' : Nat) (w : World) (hdn : s.dn = false) (hov : s.ov = false) (hz : x.z = true) (ht : 0 ≤ s.t ∧ s.t ≤ 1000) :
    Calls Try.prog 70 #[.agg #[.int .i64 l.id, .int .i64 l.ticks, .int .i64 l.start.x, .int .i64 l.start.y, .slice A l.walls.length c, .slice A' l.gates.length c', .int .i64 l.fin.lo.x, .int .i64 l.fin.lo.y, .int .i64 l.fin.hi.x, .int .i64 l.fin.hi.y, .int .i64 l.bans], .agg #[.int .i64 s.t, .int .i64 s.p.x, .int .i64 s.p.y, .int .i64 s.f.x, .int .i64 s.f.y, .int .i64 s.d, .int .i64 s.g, .bool s.dn, .bool s.ov], .agg #[.int .i64 x.s, .int .i64 x.p, .bool x.z]] w fun e w' => e = .returned (.agg #[.int .i64 (stepS l s x).t, .int .i64 (stepS l s x).p.x, .int .i64 (stepS l s x).p.y, .int .i64 (stepS l s x).f.x, .int .i64 (stepS l s x).f.y, .int .i64 (stepS l s x).d, .int .i64 (stepS l s x).g, .bool (stepS l s x).dn, .bool (stepS l s x).ov]) ∧ Below w.heap.size w w' := by
  have e : stepS l s x = ⟨s.t + 1, s.p, s.f, s.d, s.g, s.dn, s.ov⟩ := by unfold stepS; rw [hdn, hov, hz]; rfl
  rw [e]
  clear e
  obtain ⟨t, p, f, d, g, dn, ov⟩ := s
  simp only at *
  subst hdn hov
  obtain ⟨xs, xp, xz⟩ := x
  simp only at *
  subst hz
  obtain ⟨t0, t1⟩ := ht
  have q1 := assertPP
  go_enter Try.func70, Try.ntmps70
  go_wp2_with fail
  refine (controlPause xs xp _).mono ?_
  rintro e w1 ⟨rfl, hb1⟩
  have L1 : Bk w1 w.heap.size 29 #[.int .i64 l.id, .int .i64 l.ticks, .int .i64 l.start.x, .int .i64 l.start.y, .slice A l.walls.length c, .slice A' l.gates.length c', .int .i64 l.fin.lo.x, .int .i64 l.fin.lo.y, .int .i64 l.fin.hi.x, .int .i64 l.fin.hi.y, .int .i64 l.bans] := Bk.later (by (repeat (first | (with_reducible assumption) | (with_reducible exact Bk.new _ _ _ (by simp; done)) | (with_reducible refine Bk.alloc ?_ _) | (with_reducible refine Bk.drew ?_) | (with_reducible refine Bk.drewN ?_ _) | (with_reducible apply Bk.set') | (with_reducible refine Bk.far ?_ (by first | omega | (simp; done) | (simp; omega)) _) | (with_reducible refine Bk.later ?_ (by assumption)) | (with_reducible refine Bk.grown ?_ (by assumption) (by first | omega | (simp; done) | (simp; omega))) | (exact SetTo.mk (by with_reducible rfl)) | (exact SetTo.mk (by simp))))) hb1
  have S1 : Bk w1 (w.heap.size + 1) 31 #[.int .i64 t, .int .i64 p.x, .int .i64 p.y, .int .i64 f.x, .int .i64 f.y, .int .i64 d, .int .i64 g, .bool false, .bool false] := Bk.later (by (repeat (first | (with_reducible assumption) | (with_reducible exact Bk.new _ _ _ (by simp; done)) | (with_reducible refine Bk.alloc ?_ _) | (with_reducible refine Bk.drew ?_) | (with_reducible refine Bk.drewN ?_ _) | (with_reducible apply Bk.set') | (with_reducible refine Bk.far ?_ (by first | omega | (simp; done) | (simp; omega)) _) | (with_reducible refine Bk.later ?_ (by assumption)) | (with_reducible refine Bk.grown ?_ (by assumption) (by first | omega | (simp; done) | (simp; omega))) | (exact SetTo.mk (by with_reducible rfl)) | (exact SetTo.mk (by simp))))) hb1
  have R1 : Bk w1 (w.heap.size + 1 + 1 + 1) 31 #[.int .i64 0, .int .i64 0, .int .i64 0, .int .i64 0, .int .i64 0, .int .i64 0, .int .i64 0, .bool false, .bool false] := Bk.later (by (repeat (first | (with_reducible assumption) | (with_reducible exact Bk.new _ _ _ (by simp; done)) | (with_reducible refine Bk.alloc ?_ _) | (with_reducible refine Bk.drew ?_) | (with_reducible refine Bk.drewN ?_ _) | (with_reducible apply Bk.set') | (with_reducible refine Bk.far ?_ (by first | omega | (simp; done) | (simp; omega)) _) | (with_reducible refine Bk.later ?_ (by assumption)) | (with_reducible refine Bk.grown ?_ (by assumption) (by first | omega | (simp; done) | (simp; omega))) | (exact SetTo.mk (by with_reducible rfl)) | (exact SetTo.mk (by simp))))) hb1
  have B1 : Below w.heap.size w w1 := by (repeat (first | (with_reducible assumption) | (with_reducible exact Below.refl _ _) | (with_reducible refine below_alloc ?_ _) | (with_reducible refine below_setCell ?_ ?_ _; (simp <;> omega)) | (with_reducible refine below_drew ?_) | (with_reducible refine below_drewN ?_ _) | (with_reducible refine below_after ?_ (by assumption))))
  clear hb1
  have zL := L1.lt; have zS := S1.lt; have zR := R1.lt
  obtain ⟨⟨l0, l1, l2, l3, l4, l5, l6, l7, l8, l9, l10⟩, lf⟩ := L1.c11; obtain ⟨⟨s0, s1, s2, s3, s4, s5, s6, s7, s8⟩, sf⟩ := S1.c9
  go_wp2_with fail
  refine (pauseTick_any l (⟨t, p, f, d, g, false, false⟩ : St) A A' c c' _ ⟨t0, t1⟩).mono ?_
  rintro e w2 ⟨rfl, hb2⟩
  have R2 : Bk w2 (w.heap.size + 1 + 1 + 1) 31 #[.int .i64 0, .int .i64 0, .int .i64 0, .int .i64 0, .int .i64 0, .int .i64 0, .int .i64 0, .bool false, .bool false] := Bk.later (by (repeat (first | (with_reducible assumption) | (with_reducible exact Bk.new _ _ _ (by simp; done)) | (with_reducible refine Bk.alloc ?_ _) | (with_reducible refine Bk.drew ?_) | (with_reducible refine Bk.drewN ?_ _) | (with_reducible apply Bk.set') | (with_reducible refine Bk.far ?_ (by first | omega | (simp; done) | (simp; omega)) _) | (with_reducible refine Bk.later ?_ (by assumption)) | (with_reducible refine Bk.grown ?_ (by assumption) (by first | omega | (simp; done) | (simp; omega))) | (exact SetTo.mk (by with_reducible rfl)) | (exact SetTo.mk (by simp))))) hb2
  have B2 : Below w.heap.size w w2 := by (repeat (first | (with_reducible assumption) | (with_reducible exact Below.refl _ _) | (with_reducible refine below_alloc ?_ _) | (with_reducible refine below_setCell ?_ ?_ _; (simp <;> omega)) | (with_reducible refine below_drew ?_) | (with_reducible refine below_drewN ?_ _) | (with_reducible refine below_after ?_ (by assumption))))
  clear hb2 l0 l1 l2 l3 l4 l5 l6 l7 l8 l9 l10 lf s0 s1 s2 s3 s4 s5 s6 s7 s8 sf L1 S1 R1 B1
  have zR := R2.lt
  obtain ⟨⟨r0, r1, r2, r3, r4, r5, r6, r7, r8⟩, rf⟩ := R2.c9
  go_wp2
  refine bodyPost_ret (v := .agg #[.int .i64 (t + 1), .int .i64 p.x, .int .i64 p.y, .int .i64 f.x, .int .i64 f.y, .int .i64 d, .int .i64 g, .bool false, .bool false]) (by simp [results, Try.results70, go_sem, *]) rfl ⟨rfl, ?_⟩
  (repeat (first | (with_reducible assumption) | (with_reducible exact Below.refl _ _) | (with_reducible refine below_alloc ?_ _) | (with_reducible refine below_setCell ?_ ?_ _; (simp <;> omega)) | (with_reducible refine below_drew ?_) | (with_reducible refine below_drewN ?_ _) | (with_reducible refine below_after ?_ (by assumption))))
theorem driveTick_f (l : Lev) (t : Int) (p f : V2) (d g : Int) (dn : Bool) (st pw : Int) (z : Bool) (ds : St) (A A' : Option Addr) (c c' : Nat) (w : World) (h : Sl w 4 encBx A l.walls.length l.walls) (h' : Sl w 4 encBx A' l.gates.length l.gates) (hn : (l.walls.length : Nat) ≤ 9223372036854775807)
    (hl : levOk l = true) (hp : vOk p = true) (hf : fOk f) (hd0 : 0 ≤ d) (hd1 : d ≤ 15) (hs0 : -1 ≤ st) (hs1 : st ≤ 1) (hg0 : 0 ≤ g) (hg1 : g ≤ 3) (ht0 : 0 ≤ t) (ht1 : t ≤ 1000) (hds : driveS l ⟨t + 1, p, f, d, g, dn, false⟩ ⟨st, pw, z⟩ = ds) :
    Calls Try.prog 109 #[.agg #[.int .i64 st, .int .i64 pw], .agg #[.int .i64 l.id, .int .i64 l.ticks, .int .i64 l.start.x, .int .i64 l.start.y, .slice A l.walls.length c, .slice A' l.gates.length c', .int .i64 l.fin.lo.x, .int .i64 l.fin.lo.y, .int .i64 l.fin.hi.x, .int .i64 l.fin.hi.y, .int .i64 l.bans], .agg #[.int .i64 t, .int .i64 p.x, .int .i64 p.y, .int .i64 f.x, .int .i64 f.y, .int .i64 d, .int .i64 g, .bool dn, .bool false]] w fun e w' => e = .returned (.agg #[.int .i64 ds.t, .int .i64 ds.p.x, .int .i64 ds.p.y, .int .i64 ds.f.x, .int .i64 ds.f.y, .int .i64 ds.d, .int .i64 ds.g, .bool ds.dn, .bool ds.ov]) ∧ Below w.heap.size w w' := by
  subst hds
  exact driveTick_any l (⟨t, p, f, d, g, dn, false⟩ : St) st pw z A A' c c' w h h' hn hl hp hf hd0 hd1 hs0 hs1 hg0 hg1 ht0 ht1 rfl
set_option maxRecDepth 100000 in
set_option maxHeartbeats 2000000 in
theorem after_drive (l : Lev) (s : St) (x : Inp) (A A' : Option Addr) (c c' : Nat) (w : World) (h : Sl w 4 encBx A l.walls.length l.walls) (h' : Sl w 4 encBx A' l.gates.length l.gates) (hn : (l.walls.length : Nat) ≤ 9223372036854775807)
    (hl : levOk l = true) (hp : vOk s.p = true) (hf : fOk s.f) (hd0 : 0 ≤ s.d) (hd1 : s.d ≤ 15) (hs0 : -1 ≤ x.s) (hs1 : x.s ≤ 1) (hg0 : 0 ≤ s.g) (hg1 : s.g ≤ 3) (ht0 : 0 ≤ s.t) (ht1 : s.t ≤ 1000) (hdn : s.dn = false) (hov : s.ov = false) (hz : x.z = false) :
    Calls Try.prog 70 #[.agg #[.int .i64 l.id, .int .i64 l.ticks, .int .i64 l.start.x, .int .i64 l.start.y, .slice A l.walls.length c, .slice A' l.gates.length c', .int .i64 l.fin.lo.x, .int .i64 l.fin.lo.y, .int .i64 l.fin.hi.x, .int .i64 l.fin.hi.y, .int .i64 l.bans], .agg #[.int .i64 s.t, .int .i64 s.p.x, .int .i64 s.p.y, .int .i64 s.f.x, .int .i64 s.f.y, .int .i64 s.d, .int .i64 s.g, .bool s.dn, .bool s.ov], .agg #[.int .i64 x.s, .int .i64 x.p, .bool x.z]] w fun e w' => e = .returned (.agg #[.int .i64 (stepS l s x).t, .int .i64 (stepS l s x).p.x, .int .i64 (stepS l s x).p.y, .int .i64 (stepS l s x).f.x, .int .i64 (stepS l s x).f.y, .int .i64 (stepS l s x).d, .int .i64 (stepS l s x).g, .bool (stepS l s x).dn, .bool (stepS l s x).ov]) ∧ Below w.heap.size w w' := by
  have e : stepS l s x = driveS l ⟨s.t + 1, s.p, s.f, s.d, s.g, s.dn, s.ov⟩ x := by unfold stepS; rw [hdn, hov, hz]; rfl
  rw [e]
  clear e
  obtain ⟨t, p, f, d, g, dn, ov⟩ := s
  simp only at *
  subst hdn hov
  obtain ⟨xs, xp, xz⟩ := x
  simp only at *
  subst hz
  obtain ⟨ds, hds⟩ : ∃ ds, driveS l ⟨t + 1, p, f, d, g, false, false⟩ ⟨xs, xp, false⟩ = ds := ⟨_, rfl⟩
  rw [hds]
  have HDS := Lib.hid hds
  clear hds
  have q1 := assertDP
  have q2 := assertDD
  go_enter Try.func70, Try.ntmps70
  go_wp2_with fail
  refine (controlDrive xs xp _).mono ?_
  rintro e w1 ⟨rfl, hb1⟩
  have L1 : Bk w1 w.heap.size 29 #[.int .i64 l.id, .int .i64 l.ticks, .int .i64 l.start.x, .int .i64 l.start.y, .slice A l.walls.length c, .slice A' l.gates.length c', .int .i64 l.fin.lo.x, .int .i64 l.fin.lo.y, .int .i64 l.fin.hi.x, .int .i64 l.fin.hi.y, .int .i64 l.bans] := Bk.later (by (repeat (first | (with_reducible assumption) | (with_reducible exact Bk.new _ _ _ (by simp; done)) | (with_reducible refine Bk.alloc ?_ _) | (with_reducible refine Bk.drew ?_) | (with_reducible refine Bk.drewN ?_ _) | (with_reducible apply Bk.set') | (with_reducible refine Bk.far ?_ (by first | omega | (simp; done) | (simp; omega)) _) | (with_reducible refine Bk.later ?_ (by assumption)) | (with_reducible refine Bk.grown ?_ (by assumption) (by first | omega | (simp; done) | (simp; omega))) | (exact SetTo.mk (by with_reducible rfl)) | (exact SetTo.mk (by simp))))) hb1
  have S1 : Bk w1 (w.heap.size + 1) 31 #[.int .i64 t, .int .i64 p.x, .int .i64 p.y, .int .i64 f.x, .int .i64 f.y, .int .i64 d, .int .i64 g, .bool false, .bool false] := Bk.later (by (repeat (first | (with_reducible assumption) | (with_reducible exact Bk.new _ _ _ (by simp; done)) | (with_reducible refine Bk.alloc ?_ _) | (with_reducible refine Bk.drew ?_) | (with_reducible refine Bk.drewN ?_ _) | (with_reducible apply Bk.set') | (with_reducible refine Bk.far ?_ (by first | omega | (simp; done) | (simp; omega)) _) | (with_reducible refine Bk.later ?_ (by assumption)) | (with_reducible refine Bk.grown ?_ (by assumption) (by first | omega | (simp; done) | (simp; omega))) | (exact SetTo.mk (by with_reducible rfl)) | (exact SetTo.mk (by simp))))) hb1
  have R1 : Bk w1 (w.heap.size + 1 + 1 + 1) 31 #[.int .i64 0, .int .i64 0, .int .i64 0, .int .i64 0, .int .i64 0, .int .i64 0, .int .i64 0, .bool false, .bool false] := Bk.later (by (repeat (first | (with_reducible assumption) | (with_reducible exact Bk.new _ _ _ (by simp; done)) | (with_reducible refine Bk.alloc ?_ _) | (with_reducible refine Bk.drew ?_) | (with_reducible refine Bk.drewN ?_ _) | (with_reducible apply Bk.set') | (with_reducible refine Bk.far ?_ (by first | omega | (simp; done) | (simp; omega)) _) | (with_reducible refine Bk.later ?_ (by assumption)) | (with_reducible refine Bk.grown ?_ (by assumption) (by first | omega | (simp; done) | (simp; omega))) | (exact SetTo.mk (by with_reducible rfl)) | (exact SetTo.mk (by simp))))) hb1
  have B1 : Below w.heap.size w w1 := by (repeat (first | (with_reducible assumption) | (with_reducible exact Below.refl _ _) | (with_reducible refine below_alloc ?_ _) | (with_reducible refine below_setCell ?_ ?_ _; (simp <;> omega)) | (with_reducible refine below_drew ?_) | (with_reducible refine below_drewN ?_ _) | (with_reducible refine below_after ?_ (by assumption))))
  clear hb1
  have zL := L1.lt; have zS := S1.lt; have zR := R1.lt
  obtain ⟨⟨l0, l1, l2, l3, l4, l5, l6, l7, l8, l9, l10⟩, lf⟩ := L1.c11; obtain ⟨⟨s0, s1, s2, s3, s4, s5, s6, s7, s8⟩, sf⟩ := S1.c9
  go_wp2_with fail
  refine (driveTick_f l t p f d g false xs xp false ds A A' c c' _ (h.below (by (repeat (first | (with_reducible assumption) | (with_reducible exact Below.refl _ _) | (with_reducible refine below_alloc ?_ _) | (with_reducible refine below_setCell ?_ ?_ _; (simp <;> omega)) | (with_reducible refine below_drew ?_) | (with_reducible refine below_drewN ?_ _) | (with_reducible refine below_after ?_ (by assumption)))))) (h'.below (by (repeat (first | (with_reducible assumption) | (with_reducible exact Below.refl _ _) | (with_reducible refine below_alloc ?_ _) | (with_reducible refine below_setCell ?_ ?_ _; (simp <;> omega)) | (with_reducible refine below_drew ?_) | (with_reducible refine below_drewN ?_ _) | (with_reducible refine below_after ?_ (by assumption)))))) hn hl hp hf hd0 hd1 hs0 hs1 hg0 hg1 ht0 ht1 HDS.out).mono ?_
  rintro e w2 ⟨rfl, hb2⟩
  have R2 : Bk w2 (w.heap.size + 1 + 1 + 1) 31 #[.int .i64 0, .int .i64 0, .int .i64 0, .int .i64 0, .int .i64 0, .int .i64 0, .int .i64 0, .bool false, .bool false] := Bk.later (by (repeat (first | (with_reducible assumption) | (with_reducible exact Bk.new _ _ _ (by simp; done)) | (with_reducible refine Bk.alloc ?_ _) | (with_reducible refine Bk.drew ?_) | (with_reducible refine Bk.drewN ?_ _) | (with_reducible apply Bk.set') | (with_reducible refine Bk.far ?_ (by first | omega | (simp; done) | (simp; omega)) _) | (with_reducible refine Bk.later ?_ (by assumption)) | (with_reducible refine Bk.grown ?_ (by assumption) (by first | omega | (simp; done) | (simp; omega))) | (exact SetTo.mk (by with_reducible rfl)) | (exact SetTo.mk (by simp))))) hb2
  have B2 : Below w.heap.size w w2 := by (repeat (first | (with_reducible assumption) | (with_reducible exact Below.refl _ _) | (with_reducible refine below_alloc ?_ _) | (with_reducible refine below_setCell ?_ ?_ _; (simp <;> omega)) | (with_reducible refine below_drew ?_) | (with_reducible refine below_drewN ?_ _) | (with_reducible refine below_after ?_ (by assumption))))
  clear hb2 l0 l1 l2 l3 l4 l5 l6 l7 l8 l9 l10 lf s0 s1 s2 s3 s4 s5 s6 s7 s8 sf L1 S1 R1 B1
  have zR := R2.lt
  obtain ⟨⟨r0, r1, r2, r3, r4, r5, r6, r7, r8⟩, rf⟩ := R2.c9
  go_wp2
  refine bodyPost_ret (v := .agg #[.int .i64 ds.t, .int .i64 ds.p.x, .int .i64 ds.p.y, .int .i64 ds.f.x, .int .i64 ds.f.y, .int .i64 ds.d, .int .i64 ds.g, .bool ds.dn, .bool ds.ov]) (by simp [results, Try.results70, go_sem, *]) rfl ⟨rfl, ?_⟩
  (repeat (first | (with_reducible assumption) | (with_reducible exact Below.refl _ _) | (with_reducible refine below_alloc ?_ _) | (with_reducible refine below_setCell ?_ ?_ _; (simp <;> omega)) | (with_reducible refine below_drew ?_) | (with_reducible refine below_drewN ?_ _) | (with_reducible refine below_after ?_ (by assumption))))
end Go.Proofs.Ytmfhfebakdkkdaa
