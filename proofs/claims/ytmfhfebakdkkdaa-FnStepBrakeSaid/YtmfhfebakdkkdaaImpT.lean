/- EngineStep of both sides. Printed by gen/engv.py. (Round B) -/
import Derived.Test.YtmfhfebakdkkdaaImpS
namespace Go.Proofs.Ytmfhfebakdkkdaa
open Go.ChangeShapes Go.WideShapes Go.ChangeAt Go.RowKit
def engOk (l : Lev) (s : St) (x : Inp) : Bool := validB l s && (inpOk x && !(decide (s.t = l.ticks) && (!s.dn && !s.ov)))
def engR (l : Lev) (s : St) (x : Inp) : St := if engOk l s x then stepS l s x else zeroSt
set_option maxRecDepth 100000 in
set_option maxHeartbeats 4000000 in
theorem implEngineStep_any (l : Lev) (s : St) (x : Inp) (A A' : Option Addr) (c c' : Nat) (w : World) (h : Sl w 4 encBx A l.walls.length l.walls) (hg : Sl w 4 encBx A' l.gates.length l.gates) (e : A = none → c = 0) (e' : A' = none → c' = 0) (hn : (l.walls.length : Nat) ≤ 9223372036854775807) (hn' : (l.gates.length : Nat) ≤ 9223372036854775807) :
    Calls Try.prog 26 #[.agg #[.int .i64 l.id, .int .i64 l.ticks, .int .i64 l.start.x, .int .i64 l.start.y, .slice A l.walls.length c, .slice A' l.gates.length c', .int .i64 l.fin.lo.x, .int .i64 l.fin.lo.y, .int .i64 l.fin.hi.x, .int .i64 l.fin.hi.y, .int .i64 l.bans], .agg #[.int .i64 s.t, .int .i64 s.p.x, .int .i64 s.p.y, .int .i64 s.f.x, .int .i64 s.f.y, .int .i64 s.d, .int .i64 s.g, .bool s.dn, .bool s.ov], .agg #[.int .i64 x.s, .int .i64 x.p, .bool x.z]] w fun e w' => e = .returned (.tuple #[.agg #[.int .i64 (engR l s x).t, .int .i64 (engR l s x).p.x, .int .i64 (engR l s x).p.y, .int .i64 (engR l s x).f.x, .int .i64 (engR l s x).f.y, .int .i64 (engR l s x).d, .int .i64 (engR l s x).g, .bool (engR l s x).dn, .bool (engR l s x).ov], .bool (engOk l s x)]) ∧ Below w.heap.size w w' := by
  cases h1 : validB l s
  · have HN : Hid (engOk l s x = false) := Lib.hid (by simp [engOk, h1])
    have HZ : Hid (engR l s x = zeroSt) := Lib.hid (by unfold engR; rw [HN.out]; rfl)
    rw [HN.out, HZ.out]
    go_enter Try.func26, Try.ntmps26
    go_wp2_with fail
    refine (implEngineValid_any l s A A' c c' _ (h.below (by (repeat (first | (with_reducible assumption) | (with_reducible exact Below.refl _ _) | (with_reducible refine below_alloc ?_ _) | (with_reducible refine below_setCell ?_ ?_ _; (simp <;> omega)) | (with_reducible refine below_drew ?_) | (with_reducible refine below_drewN ?_ _) | (with_reducible refine below_after ?_ (by assumption)))))) (hg.below (by (repeat (first | (with_reducible assumption) | (with_reducible exact Below.refl _ _) | (with_reducible refine below_alloc ?_ _) | (with_reducible refine below_setCell ?_ ?_ _; (simp <;> omega)) | (with_reducible refine below_drew ?_) | (with_reducible refine below_drewN ?_ _) | (with_reducible refine below_after ?_ (by assumption)))))) e e' hn hn').mono ?_
    rw [h1]
    rintro e w1 ⟨rfl, hb1⟩
    have L1 : Bk w1 (w.heap.size) 29 #[.int .i64 l.id, .int .i64 l.ticks, .int .i64 l.start.x, .int .i64 l.start.y, .slice A l.walls.length c, .slice A' l.gates.length c', .int .i64 l.fin.lo.x, .int .i64 l.fin.lo.y, .int .i64 l.fin.hi.x, .int .i64 l.fin.hi.y, .int .i64 l.bans] := Bk.later (by (repeat (first | (with_reducible assumption) | (with_reducible exact Bk.new _ _ _ (by simp; done)) | (with_reducible refine Bk.alloc ?_ _) | (with_reducible refine Bk.drew ?_) | (with_reducible refine Bk.drewN ?_ _) | (with_reducible apply Bk.set') | (with_reducible refine Bk.far ?_ (by first | omega | (simp; done) | (simp; omega)) _) | (with_reducible refine Bk.later ?_ (by assumption)) | (with_reducible refine Bk.grown ?_ (by assumption) (by first | omega | (simp; done) | (simp; omega))) | (exact SetTo.mk (by with_reducible rfl)) | (exact SetTo.mk (by simp))))) hb1
    have S1 : Bk w1 (w.heap.size + 1) 31 #[.int .i64 s.t, .int .i64 s.p.x, .int .i64 s.p.y, .int .i64 s.f.x, .int .i64 s.f.y, .int .i64 s.d, .int .i64 s.g, .bool s.dn, .bool s.ov] := Bk.later (by (repeat (first | (with_reducible assumption) | (with_reducible exact Bk.new _ _ _ (by simp; done)) | (with_reducible refine Bk.alloc ?_ _) | (with_reducible refine Bk.drew ?_) | (with_reducible refine Bk.drewN ?_ _) | (with_reducible apply Bk.set') | (with_reducible refine Bk.far ?_ (by first | omega | (simp; done) | (simp; omega)) _) | (with_reducible refine Bk.later ?_ (by assumption)) | (with_reducible refine Bk.grown ?_ (by assumption) (by first | omega | (simp; done) | (simp; omega))) | (exact SetTo.mk (by with_reducible rfl)) | (exact SetTo.mk (by simp))))) hb1
    have X1 : Bk w1 (w.heap.size + 1 + 1) 33 #[.int .i64 x.s, .int .i64 x.p, .bool x.z] := Bk.later (by (repeat (first | (with_reducible assumption) | (with_reducible exact Bk.new _ _ _ (by simp; done)) | (with_reducible refine Bk.alloc ?_ _) | (with_reducible refine Bk.drew ?_) | (with_reducible refine Bk.drewN ?_ _) | (with_reducible apply Bk.set') | (with_reducible refine Bk.far ?_ (by first | omega | (simp; done) | (simp; omega)) _) | (with_reducible refine Bk.later ?_ (by assumption)) | (with_reducible refine Bk.grown ?_ (by assumption) (by first | omega | (simp; done) | (simp; omega))) | (exact SetTo.mk (by with_reducible rfl)) | (exact SetTo.mk (by simp))))) hb1
    have R1 : Bk w1 (w.heap.size + 1 + 1 + 1) 31 #[.int .i64 0, .int .i64 0, .int .i64 0, .int .i64 0, .int .i64 0, .int .i64 0, .int .i64 0, .bool false, .bool false] := Bk.later (by (repeat (first | (with_reducible assumption) | (with_reducible exact Bk.new _ _ _ (by simp; done)) | (with_reducible refine Bk.alloc ?_ _) | (with_reducible refine Bk.drew ?_) | (with_reducible refine Bk.drewN ?_ _) | (with_reducible apply Bk.set') | (with_reducible refine Bk.far ?_ (by first | omega | (simp; done) | (simp; omega)) _) | (with_reducible refine Bk.later ?_ (by assumption)) | (with_reducible refine Bk.grown ?_ (by assumption) (by first | omega | (simp; done) | (simp; omega))) | (exact SetTo.mk (by with_reducible rfl)) | (exact SetTo.mk (by simp))))) hb1
    have d1 : Below w.heap.size w w1 := below_after (by (repeat (first | (with_reducible assumption) | (with_reducible exact Below.refl _ _) | (with_reducible refine below_alloc ?_ _) | (with_reducible refine below_setCell ?_ ?_ _; (simp <;> omega)) | (with_reducible refine below_drew ?_) | (with_reducible refine below_drewN ?_ _) | (with_reducible refine below_after ?_ (by assumption))))) hb1
    have zz1 := R1.lt
    clear hb1
    obtain ⟨⟨l0, l1, l2, l3, l4, l5, l6, l7, l8, l9, l10⟩, lf⟩ := L1.c11; obtain ⟨⟨s0, s1, s2, s3, s4, s5, s6, s7, s8⟩, sf⟩ := S1.c9; obtain ⟨⟨x0, x1, x2⟩, xf⟩ := X1.c3; obtain ⟨⟨r0, r1, r2, r3, r4, r5, r6, r7, r8⟩, rf⟩ := R1.c9
    go_wp2
    refine bodyPost_ret (v := .tuple #[.agg #[.int .i64 zeroSt.t, .int .i64 zeroSt.p.x, .int .i64 zeroSt.p.y, .int .i64 zeroSt.f.x, .int .i64 zeroSt.f.y, .int .i64 zeroSt.d, .int .i64 zeroSt.g, .bool zeroSt.dn, .bool zeroSt.ov], .bool false]) (by simp [results, Try.results26, go_sem, zeroSt, *]) rfl ⟨rfl, by (repeat (first | (with_reducible assumption) | (with_reducible exact Below.refl _ _) | (with_reducible refine below_alloc ?_ _) | (with_reducible refine below_setCell ?_ ?_ _; (simp <;> omega)) | (with_reducible refine below_drew ?_) | (with_reducible refine below_drewN ?_ _) | (with_reducible refine below_after ?_ (by assumption))))⟩
  cases h2 : inpOk x
  · have HN : Hid (engOk l s x = false) := Lib.hid (by simp [engOk, h2])
    have HZ : Hid (engR l s x = zeroSt) := Lib.hid (by unfold engR; rw [HN.out]; rfl)
    rw [HN.out, HZ.out]
    go_enter Try.func26, Try.ntmps26
    go_wp2_with fail
    refine (implEngineValid_any l s A A' c c' _ (h.below (by (repeat (first | (with_reducible assumption) | (with_reducible exact Below.refl _ _) | (with_reducible refine below_alloc ?_ _) | (with_reducible refine below_setCell ?_ ?_ _; (simp <;> omega)) | (with_reducible refine below_drew ?_) | (with_reducible refine below_drewN ?_ _) | (with_reducible refine below_after ?_ (by assumption)))))) (hg.below (by (repeat (first | (with_reducible assumption) | (with_reducible exact Below.refl _ _) | (with_reducible refine below_alloc ?_ _) | (with_reducible refine below_setCell ?_ ?_ _; (simp <;> omega)) | (with_reducible refine below_drew ?_) | (with_reducible refine below_drewN ?_ _) | (with_reducible refine below_after ?_ (by assumption)))))) e e' hn hn').mono ?_
    rw [h1]
    rintro e w1 ⟨rfl, hb1⟩
    have L1 : Bk w1 (w.heap.size) 29 #[.int .i64 l.id, .int .i64 l.ticks, .int .i64 l.start.x, .int .i64 l.start.y, .slice A l.walls.length c, .slice A' l.gates.length c', .int .i64 l.fin.lo.x, .int .i64 l.fin.lo.y, .int .i64 l.fin.hi.x, .int .i64 l.fin.hi.y, .int .i64 l.bans] := Bk.later (by (repeat (first | (with_reducible assumption) | (with_reducible exact Bk.new _ _ _ (by simp; done)) | (with_reducible refine Bk.alloc ?_ _) | (with_reducible refine Bk.drew ?_) | (with_reducible refine Bk.drewN ?_ _) | (with_reducible apply Bk.set') | (with_reducible refine Bk.far ?_ (by first | omega | (simp; done) | (simp; omega)) _) | (with_reducible refine Bk.later ?_ (by assumption)) | (with_reducible refine Bk.grown ?_ (by assumption) (by first | omega | (simp; done) | (simp; omega))) | (exact SetTo.mk (by with_reducible rfl)) | (exact SetTo.mk (by simp))))) hb1
    have S1 : Bk w1 (w.heap.size + 1) 31 #[.int .i64 s.t, .int .i64 s.p.x, .int .i64 s.p.y, .int .i64 s.f.x, .int .i64 s.f.y, .int .i64 s.d, .int .i64 s.g, .bool s.dn, .bool s.ov] := Bk.later (by (repeat (first | (with_reducible assumption) | (with_reducible exact Bk.new _ _ _ (by simp; done)) | (with_reducible refine Bk.alloc ?_ _) | (with_reducible refine Bk.drew ?_) | (with_reducible refine Bk.drewN ?_ _) | (with_reducible apply Bk.set') | (with_reducible refine Bk.far ?_ (by first | omega | (simp; done) | (simp; omega)) _) | (with_reducible refine Bk.later ?_ (by assumption)) | (with_reducible refine Bk.grown ?_ (by assumption) (by first | omega | (simp; done) | (simp; omega))) | (exact SetTo.mk (by with_reducible rfl)) | (exact SetTo.mk (by simp))))) hb1
    have X1 : Bk w1 (w.heap.size + 1 + 1) 33 #[.int .i64 x.s, .int .i64 x.p, .bool x.z] := Bk.later (by (repeat (first | (with_reducible assumption) | (with_reducible exact Bk.new _ _ _ (by simp; done)) | (with_reducible refine Bk.alloc ?_ _) | (with_reducible refine Bk.drew ?_) | (with_reducible refine Bk.drewN ?_ _) | (with_reducible apply Bk.set') | (with_reducible refine Bk.far ?_ (by first | omega | (simp; done) | (simp; omega)) _) | (with_reducible refine Bk.later ?_ (by assumption)) | (with_reducible refine Bk.grown ?_ (by assumption) (by first | omega | (simp; done) | (simp; omega))) | (exact SetTo.mk (by with_reducible rfl)) | (exact SetTo.mk (by simp))))) hb1
    have R1 : Bk w1 (w.heap.size + 1 + 1 + 1) 31 #[.int .i64 0, .int .i64 0, .int .i64 0, .int .i64 0, .int .i64 0, .int .i64 0, .int .i64 0, .bool false, .bool false] := Bk.later (by (repeat (first | (with_reducible assumption) | (with_reducible exact Bk.new _ _ _ (by simp; done)) | (with_reducible refine Bk.alloc ?_ _) | (with_reducible refine Bk.drew ?_) | (with_reducible refine Bk.drewN ?_ _) | (with_reducible apply Bk.set') | (with_reducible refine Bk.far ?_ (by first | omega | (simp; done) | (simp; omega)) _) | (with_reducible refine Bk.later ?_ (by assumption)) | (with_reducible refine Bk.grown ?_ (by assumption) (by first | omega | (simp; done) | (simp; omega))) | (exact SetTo.mk (by with_reducible rfl)) | (exact SetTo.mk (by simp))))) hb1
    have d1 : Below w.heap.size w w1 := below_after (by (repeat (first | (with_reducible assumption) | (with_reducible exact Below.refl _ _) | (with_reducible refine below_alloc ?_ _) | (with_reducible refine below_setCell ?_ ?_ _; (simp <;> omega)) | (with_reducible refine below_drew ?_) | (with_reducible refine below_drewN ?_ _) | (with_reducible refine below_after ?_ (by assumption))))) hb1
    have zz1 := R1.lt
    clear hb1
    obtain ⟨⟨l0, l1, l2, l3, l4, l5, l6, l7, l8, l9, l10⟩, lf⟩ := L1.c11; obtain ⟨⟨s0, s1, s2, s3, s4, s5, s6, s7, s8⟩, sf⟩ := S1.c9; obtain ⟨⟨x0, x1, x2⟩, xf⟩ := X1.c3; obtain ⟨⟨r0, r1, r2, r3, r4, r5, r6, r7, r8⟩, rf⟩ := R1.c9
    go_wp2_with fail
    refine (implInputValid_any x _).mono ?_
    rw [h2]
    rintro e w2 ⟨rfl, hb2⟩
    have L2 := L1.later hb2
    have S2 := S1.later hb2
    have X2 := X1.later hb2
    have R2 := R1.later hb2
    have d2 := below_after d1 hb2
    have zz2 := R2.lt
    clear hb2 L1 l0 l1 l2 l3 l4 l5 l6 l7 l8 l9 l10 lf S1 s0 s1 s2 s3 s4 s5 s6 s7 s8 sf X1 x0 x1 x2 xf R1 r0 r1 r2 r3 r4 r5 r6 r7 r8 rf d1 zz1
    obtain ⟨⟨l0, l1, l2, l3, l4, l5, l6, l7, l8, l9, l10⟩, lf⟩ := L2.c11; obtain ⟨⟨s0, s1, s2, s3, s4, s5, s6, s7, s8⟩, sf⟩ := S2.c9; obtain ⟨⟨x0, x1, x2⟩, xf⟩ := X2.c3; obtain ⟨⟨r0, r1, r2, r3, r4, r5, r6, r7, r8⟩, rf⟩ := R2.c9
    go_wp2
    refine bodyPost_ret (v := .tuple #[.agg #[.int .i64 zeroSt.t, .int .i64 zeroSt.p.x, .int .i64 zeroSt.p.y, .int .i64 zeroSt.f.x, .int .i64 zeroSt.f.y, .int .i64 zeroSt.d, .int .i64 zeroSt.g, .bool zeroSt.dn, .bool zeroSt.ov], .bool false]) (by simp [results, Try.results26, go_sem, zeroSt, *]) rfl ⟨rfl, by (repeat (first | (with_reducible assumption) | (with_reducible exact Below.refl _ _) | (with_reducible refine below_alloc ?_ _) | (with_reducible refine below_setCell ?_ ?_ _; (simp <;> omega)) | (with_reducible refine below_drew ?_) | (with_reducible refine below_drewN ?_ _) | (with_reducible refine below_after ?_ (by assumption))))⟩
  obtain ⟨g1, g2, g3, g4, g5, g6⟩ := validB_iff.1 h1
  have HLO := Lib.hid g1
  have HSO := Lib.hid (valid_sOk h1)
  have HX := Lib.hid (inpOk_s h2)
  have HT0 := Lib.hid (ownB_iff.1 g2).1.1
  have HT1 : Hid (s.t ≤ 1000) := Lib.hid (by have := (ownB_iff.1 g2).1.2; omega)
  have HT2 : Hid (s.t ≤ 1000000) := Lib.hid (by have := (ownB_iff.1 g2).1.2; omega)
  have HGL : Hid (l.gates.length ≤ 1000000) := Lib.hid (by have := (levOk_iff.1 g1).2.2.2.2.2.1; omega)
  clear g1 g2 g4 g5 g6
  by_cases ht : s.t = l.ticks
  rotate_left
  · have hne : (s.t == l.ticks) = false := by simpa using ht
    have hlt : s.t < l.ticks := by omega
    have HN : Hid (engOk l s x = true) := Lib.hid (by simp [engOk, h1, h2, ht])
    have HZ : Hid (engR l s x = stepS l s x) := Lib.hid (by unfold engR; rw [HN.out]; rfl)
    rw [HN.out, HZ.out]
    obtain ⟨sv, hsv⟩ : ∃ sv, stepS l s x = sv := ⟨_, rfl⟩
    rw [hsv]
    have HSV := Lib.hid hsv
    clear hsv
    go_enter Try.func26, Try.ntmps26
    go_wp2_with fail
    refine (implEngineValid_any l s A A' c c' _ (h.below (by (repeat (first | (with_reducible assumption) | (with_reducible exact Below.refl _ _) | (with_reducible refine below_alloc ?_ _) | (with_reducible refine below_setCell ?_ ?_ _; (simp <;> omega)) | (with_reducible refine below_drew ?_) | (with_reducible refine below_drewN ?_ _) | (with_reducible refine below_after ?_ (by assumption)))))) (hg.below (by (repeat (first | (with_reducible assumption) | (with_reducible exact Below.refl _ _) | (with_reducible refine below_alloc ?_ _) | (with_reducible refine below_setCell ?_ ?_ _; (simp <;> omega)) | (with_reducible refine below_drew ?_) | (with_reducible refine below_drewN ?_ _) | (with_reducible refine below_after ?_ (by assumption)))))) e e' hn hn').mono ?_
    rw [h1]
    rintro e w1 ⟨rfl, hb1⟩
    have L1 : Bk w1 (w.heap.size) 29 #[.int .i64 l.id, .int .i64 l.ticks, .int .i64 l.start.x, .int .i64 l.start.y, .slice A l.walls.length c, .slice A' l.gates.length c', .int .i64 l.fin.lo.x, .int .i64 l.fin.lo.y, .int .i64 l.fin.hi.x, .int .i64 l.fin.hi.y, .int .i64 l.bans] := Bk.later (by (repeat (first | (with_reducible assumption) | (with_reducible exact Bk.new _ _ _ (by simp; done)) | (with_reducible refine Bk.alloc ?_ _) | (with_reducible refine Bk.drew ?_) | (with_reducible refine Bk.drewN ?_ _) | (with_reducible apply Bk.set') | (with_reducible refine Bk.far ?_ (by first | omega | (simp; done) | (simp; omega)) _) | (with_reducible refine Bk.later ?_ (by assumption)) | (with_reducible refine Bk.grown ?_ (by assumption) (by first | omega | (simp; done) | (simp; omega))) | (exact SetTo.mk (by with_reducible rfl)) | (exact SetTo.mk (by simp))))) hb1
    have S1 : Bk w1 (w.heap.size + 1) 31 #[.int .i64 s.t, .int .i64 s.p.x, .int .i64 s.p.y, .int .i64 s.f.x, .int .i64 s.f.y, .int .i64 s.d, .int .i64 s.g, .bool s.dn, .bool s.ov] := Bk.later (by (repeat (first | (with_reducible assumption) | (with_reducible exact Bk.new _ _ _ (by simp; done)) | (with_reducible refine Bk.alloc ?_ _) | (with_reducible refine Bk.drew ?_) | (with_reducible refine Bk.drewN ?_ _) | (with_reducible apply Bk.set') | (with_reducible refine Bk.far ?_ (by first | omega | (simp; done) | (simp; omega)) _) | (with_reducible refine Bk.later ?_ (by assumption)) | (with_reducible refine Bk.grown ?_ (by assumption) (by first | omega | (simp; done) | (simp; omega))) | (exact SetTo.mk (by with_reducible rfl)) | (exact SetTo.mk (by simp))))) hb1
    have X1 : Bk w1 (w.heap.size + 1 + 1) 33 #[.int .i64 x.s, .int .i64 x.p, .bool x.z] := Bk.later (by (repeat (first | (with_reducible assumption) | (with_reducible exact Bk.new _ _ _ (by simp; done)) | (with_reducible refine Bk.alloc ?_ _) | (with_reducible refine Bk.drew ?_) | (with_reducible refine Bk.drewN ?_ _) | (with_reducible apply Bk.set') | (with_reducible refine Bk.far ?_ (by first | omega | (simp; done) | (simp; omega)) _) | (with_reducible refine Bk.later ?_ (by assumption)) | (with_reducible refine Bk.grown ?_ (by assumption) (by first | omega | (simp; done) | (simp; omega))) | (exact SetTo.mk (by with_reducible rfl)) | (exact SetTo.mk (by simp))))) hb1
    have R1 : Bk w1 (w.heap.size + 1 + 1 + 1) 31 #[.int .i64 0, .int .i64 0, .int .i64 0, .int .i64 0, .int .i64 0, .int .i64 0, .int .i64 0, .bool false, .bool false] := Bk.later (by (repeat (first | (with_reducible assumption) | (with_reducible exact Bk.new _ _ _ (by simp; done)) | (with_reducible refine Bk.alloc ?_ _) | (with_reducible refine Bk.drew ?_) | (with_reducible refine Bk.drewN ?_ _) | (with_reducible apply Bk.set') | (with_reducible refine Bk.far ?_ (by first | omega | (simp; done) | (simp; omega)) _) | (with_reducible refine Bk.later ?_ (by assumption)) | (with_reducible refine Bk.grown ?_ (by assumption) (by first | omega | (simp; done) | (simp; omega))) | (exact SetTo.mk (by with_reducible rfl)) | (exact SetTo.mk (by simp))))) hb1
    have d1 : Below w.heap.size w w1 := below_after (by (repeat (first | (with_reducible assumption) | (with_reducible exact Below.refl _ _) | (with_reducible refine below_alloc ?_ _) | (with_reducible refine below_setCell ?_ ?_ _; (simp <;> omega)) | (with_reducible refine below_drew ?_) | (with_reducible refine below_drewN ?_ _) | (with_reducible refine below_after ?_ (by assumption))))) hb1
    have zz1 := R1.lt
    clear hb1
    obtain ⟨⟨l0, l1, l2, l3, l4, l5, l6, l7, l8, l9, l10⟩, lf⟩ := L1.c11; obtain ⟨⟨s0, s1, s2, s3, s4, s5, s6, s7, s8⟩, sf⟩ := S1.c9; obtain ⟨⟨x0, x1, x2⟩, xf⟩ := X1.c3; obtain ⟨⟨r0, r1, r2, r3, r4, r5, r6, r7, r8⟩, rf⟩ := R1.c9
    go_wp2_with fail
    refine (implInputValid_any x _).mono ?_
    rw [h2]
    rintro e w2 ⟨rfl, hb2⟩
    have L2 := L1.later hb2
    have S2 := S1.later hb2
    have X2 := X1.later hb2
    have R2 := R1.later hb2
    have d2 := below_after d1 hb2
    have zz2 := R2.lt
    clear hb2 L1 l0 l1 l2 l3 l4 l5 l6 l7 l8 l9 l10 lf S1 s0 s1 s2 s3 s4 s5 s6 s7 s8 sf X1 x0 x1 x2 xf R1 r0 r1 r2 r3 r4 r5 r6 r7 r8 rf d1 zz1
    obtain ⟨⟨l0, l1, l2, l3, l4, l5, l6, l7, l8, l9, l10⟩, lf⟩ := L2.c11; obtain ⟨⟨s0, s1, s2, s3, s4, s5, s6, s7, s8⟩, sf⟩ := S2.c9; obtain ⟨⟨x0, x1, x2⟩, xf⟩ := X2.c3; obtain ⟨⟨r0, r1, r2, r3, r4, r5, r6, r7, r8⟩, rf⟩ := R2.c9
    go_wp2_with fail
    refine (after_any l s x A A' c c' _ (h.below d2) (hg.below d2) hn HLO.out HSO.out HX.out.1 HX.out.2 HT0.out HT1.out).mono ?_
    rw [HSV.out]
    rintro e w3 ⟨rfl, hb3⟩
    have L3 := L2.later hb3
    have S3 := S2.later hb3
    have X3 := X2.later hb3
    have R3 := R2.later hb3
    have d3 := below_after d2 hb3
    have zz3 := R3.lt
    clear hb3 L2 l0 l1 l2 l3 l4 l5 l6 l7 l8 l9 l10 lf S2 s0 s1 s2 s3 s4 s5 s6 s7 s8 sf X2 x0 x1 x2 xf R2 r0 r1 r2 r3 r4 r5 r6 r7 r8 rf d2 zz2
    obtain ⟨⟨l0, l1, l2, l3, l4, l5, l6, l7, l8, l9, l10⟩, lf⟩ := L3.c11; obtain ⟨⟨s0, s1, s2, s3, s4, s5, s6, s7, s8⟩, sf⟩ := S3.c9; obtain ⟨⟨x0, x1, x2⟩, xf⟩ := X3.c3; obtain ⟨⟨r0, r1, r2, r3, r4, r5, r6, r7, r8⟩, rf⟩ := R3.c9
    go_wp2
    refine bodyPost_ret (v := .tuple #[.agg #[.int .i64 sv.t, .int .i64 sv.p.x, .int .i64 sv.p.y, .int .i64 sv.f.x, .int .i64 sv.f.y, .int .i64 sv.d, .int .i64 sv.g, .bool sv.dn, .bool sv.ov], .bool true]) (by simp [results, Try.results26, go_sem, *]) rfl ⟨rfl, by (repeat (first | (with_reducible assumption) | (with_reducible exact Below.refl _ _) | (with_reducible refine below_alloc ?_ _) | (with_reducible refine below_setCell ?_ ?_ _; (simp <;> omega)) | (with_reducible refine below_drew ?_) | (with_reducible refine below_drewN ?_ _) | (with_reducible refine below_after ?_ (by assumption))))⟩
  have heq : (s.t == l.ticks) = true := by simpa using ht
  have hge : l.ticks ≤ s.t := by omega
  have HT := Lib.hid ht
  clear ht g3
  obtain ⟨t, p, f, d, g, dn, ov⟩ := s
  simp only at *
  cases dn
  rotate_left
  · have HN : Hid (engOk l ⟨t, p, f, d, g, true, ov⟩ x = true) := Lib.hid (by simp [engOk, h1, h2])
    have HZ : Hid (engR l ⟨t, p, f, d, g, true, ov⟩ x = stepS l ⟨t, p, f, d, g, true, ov⟩ x) := Lib.hid (by unfold engR; rw [HN.out]; rfl)
    rw [HN.out, HZ.out]
    obtain ⟨sv, hsv⟩ : ∃ sv, stepS l ⟨t, p, f, d, g, true, ov⟩ x = sv := ⟨_, rfl⟩
    rw [hsv]
    have HSV := Lib.hid hsv
    clear hsv
    go_enter Try.func26, Try.ntmps26
    go_wp2_with fail
    refine (implEngineValid_any l ⟨t, p, f, d, g, true, ov⟩ A A' c c' _ (h.below (by (repeat (first | (with_reducible assumption) | (with_reducible exact Below.refl _ _) | (with_reducible refine below_alloc ?_ _) | (with_reducible refine below_setCell ?_ ?_ _; (simp <;> omega)) | (with_reducible refine below_drew ?_) | (with_reducible refine below_drewN ?_ _) | (with_reducible refine below_after ?_ (by assumption)))))) (hg.below (by (repeat (first | (with_reducible assumption) | (with_reducible exact Below.refl _ _) | (with_reducible refine below_alloc ?_ _) | (with_reducible refine below_setCell ?_ ?_ _; (simp <;> omega)) | (with_reducible refine below_drew ?_) | (with_reducible refine below_drewN ?_ _) | (with_reducible refine below_after ?_ (by assumption)))))) e e' hn hn').mono ?_
    rw [h1]
    rintro e w1 ⟨rfl, hb1⟩
    have L1 : Bk w1 (w.heap.size) 29 #[.int .i64 l.id, .int .i64 l.ticks, .int .i64 l.start.x, .int .i64 l.start.y, .slice A l.walls.length c, .slice A' l.gates.length c', .int .i64 l.fin.lo.x, .int .i64 l.fin.lo.y, .int .i64 l.fin.hi.x, .int .i64 l.fin.hi.y, .int .i64 l.bans] := Bk.later (by (repeat (first | (with_reducible assumption) | (with_reducible exact Bk.new _ _ _ (by simp; done)) | (with_reducible refine Bk.alloc ?_ _) | (with_reducible refine Bk.drew ?_) | (with_reducible refine Bk.drewN ?_ _) | (with_reducible apply Bk.set') | (with_reducible refine Bk.far ?_ (by first | omega | (simp; done) | (simp; omega)) _) | (with_reducible refine Bk.later ?_ (by assumption)) | (with_reducible refine Bk.grown ?_ (by assumption) (by first | omega | (simp; done) | (simp; omega))) | (exact SetTo.mk (by with_reducible rfl)) | (exact SetTo.mk (by simp))))) hb1
    have S1 : Bk w1 (w.heap.size + 1) 31 #[.int .i64 t, .int .i64 p.x, .int .i64 p.y, .int .i64 f.x, .int .i64 f.y, .int .i64 d, .int .i64 g, .bool true, .bool ov] := Bk.later (by (repeat (first | (with_reducible assumption) | (with_reducible exact Bk.new _ _ _ (by simp; done)) | (with_reducible refine Bk.alloc ?_ _) | (with_reducible refine Bk.drew ?_) | (with_reducible refine Bk.drewN ?_ _) | (with_reducible apply Bk.set') | (with_reducible refine Bk.far ?_ (by first | omega | (simp; done) | (simp; omega)) _) | (with_reducible refine Bk.later ?_ (by assumption)) | (with_reducible refine Bk.grown ?_ (by assumption) (by first | omega | (simp; done) | (simp; omega))) | (exact SetTo.mk (by with_reducible rfl)) | (exact SetTo.mk (by simp))))) hb1
    have X1 : Bk w1 (w.heap.size + 1 + 1) 33 #[.int .i64 x.s, .int .i64 x.p, .bool x.z] := Bk.later (by (repeat (first | (with_reducible assumption) | (with_reducible exact Bk.new _ _ _ (by simp; done)) | (with_reducible refine Bk.alloc ?_ _) | (with_reducible refine Bk.drew ?_) | (with_reducible refine Bk.drewN ?_ _) | (with_reducible apply Bk.set') | (with_reducible refine Bk.far ?_ (by first | omega | (simp; done) | (simp; omega)) _) | (with_reducible refine Bk.later ?_ (by assumption)) | (with_reducible refine Bk.grown ?_ (by assumption) (by first | omega | (simp; done) | (simp; omega))) | (exact SetTo.mk (by with_reducible rfl)) | (exact SetTo.mk (by simp))))) hb1
    have R1 : Bk w1 (w.heap.size + 1 + 1 + 1) 31 #[.int .i64 0, .int .i64 0, .int .i64 0, .int .i64 0, .int .i64 0, .int .i64 0, .int .i64 0, .bool false, .bool false] := Bk.later (by (repeat (first | (with_reducible assumption) | (with_reducible exact Bk.new _ _ _ (by simp; done)) | (with_reducible refine Bk.alloc ?_ _) | (with_reducible refine Bk.drew ?_) | (with_reducible refine Bk.drewN ?_ _) | (with_reducible apply Bk.set') | (with_reducible refine Bk.far ?_ (by first | omega | (simp; done) | (simp; omega)) _) | (with_reducible refine Bk.later ?_ (by assumption)) | (with_reducible refine Bk.grown ?_ (by assumption) (by first | omega | (simp; done) | (simp; omega))) | (exact SetTo.mk (by with_reducible rfl)) | (exact SetTo.mk (by simp))))) hb1
    have d1 : Below w.heap.size w w1 := below_after (by (repeat (first | (with_reducible assumption) | (with_reducible exact Below.refl _ _) | (with_reducible refine below_alloc ?_ _) | (with_reducible refine below_setCell ?_ ?_ _; (simp <;> omega)) | (with_reducible refine below_drew ?_) | (with_reducible refine below_drewN ?_ _) | (with_reducible refine below_after ?_ (by assumption))))) hb1
    have zz1 := R1.lt
    clear hb1
    obtain ⟨⟨l0, l1, l2, l3, l4, l5, l6, l7, l8, l9, l10⟩, lf⟩ := L1.c11; obtain ⟨⟨s0, s1, s2, s3, s4, s5, s6, s7, s8⟩, sf⟩ := S1.c9; obtain ⟨⟨x0, x1, x2⟩, xf⟩ := X1.c3; obtain ⟨⟨r0, r1, r2, r3, r4, r5, r6, r7, r8⟩, rf⟩ := R1.c9
    go_wp2_with fail
    refine (implInputValid_any x _).mono ?_
    rw [h2]
    rintro e w2 ⟨rfl, hb2⟩
    have L2 := L1.later hb2
    have S2 := S1.later hb2
    have X2 := X1.later hb2
    have R2 := R1.later hb2
    have d2 := below_after d1 hb2
    have zz2 := R2.lt
    clear hb2 L1 l0 l1 l2 l3 l4 l5 l6 l7 l8 l9 l10 lf S1 s0 s1 s2 s3 s4 s5 s6 s7 s8 sf X1 x0 x1 x2 xf R1 r0 r1 r2 r3 r4 r5 r6 r7 r8 rf d1 zz1
    obtain ⟨⟨l0, l1, l2, l3, l4, l5, l6, l7, l8, l9, l10⟩, lf⟩ := L2.c11; obtain ⟨⟨s0, s1, s2, s3, s4, s5, s6, s7, s8⟩, sf⟩ := S2.c9; obtain ⟨⟨x0, x1, x2⟩, xf⟩ := X2.c3; obtain ⟨⟨r0, r1, r2, r3, r4, r5, r6, r7, r8⟩, rf⟩ := R2.c9
    go_wp2_with fail
    refine (after_any l ⟨t, p, f, d, g, true, ov⟩ x A A' c c' _ (h.below d2) (hg.below d2) hn HLO.out HSO.out HX.out.1 HX.out.2 HT0.out HT1.out).mono ?_
    rw [HSV.out]
    rintro e w3 ⟨rfl, hb3⟩
    have L3 := L2.later hb3
    have S3 := S2.later hb3
    have X3 := X2.later hb3
    have R3 := R2.later hb3
    have d3 := below_after d2 hb3
    have zz3 := R3.lt
    clear hb3 L2 l0 l1 l2 l3 l4 l5 l6 l7 l8 l9 l10 lf S2 s0 s1 s2 s3 s4 s5 s6 s7 s8 sf X2 x0 x1 x2 xf R2 r0 r1 r2 r3 r4 r5 r6 r7 r8 rf d2 zz2
    obtain ⟨⟨l0, l1, l2, l3, l4, l5, l6, l7, l8, l9, l10⟩, lf⟩ := L3.c11; obtain ⟨⟨s0, s1, s2, s3, s4, s5, s6, s7, s8⟩, sf⟩ := S3.c9; obtain ⟨⟨x0, x1, x2⟩, xf⟩ := X3.c3; obtain ⟨⟨r0, r1, r2, r3, r4, r5, r6, r7, r8⟩, rf⟩ := R3.c9
    go_wp2
    refine bodyPost_ret (v := .tuple #[.agg #[.int .i64 sv.t, .int .i64 sv.p.x, .int .i64 sv.p.y, .int .i64 sv.f.x, .int .i64 sv.f.y, .int .i64 sv.d, .int .i64 sv.g, .bool sv.dn, .bool sv.ov], .bool true]) (by simp [results, Try.results26, go_sem, *]) rfl ⟨rfl, by (repeat (first | (with_reducible assumption) | (with_reducible exact Below.refl _ _) | (with_reducible refine below_alloc ?_ _) | (with_reducible refine below_setCell ?_ ?_ _; (simp <;> omega)) | (with_reducible refine below_drew ?_) | (with_reducible refine below_drewN ?_ _) | (with_reducible refine below_after ?_ (by assumption))))⟩
  cases ov
  · have HN : Hid (engOk l ⟨t, p, f, d, g, false, false⟩ x = false) := Lib.hid (by simp [engOk, HT.out])
    have HZ : Hid (engR l ⟨t, p, f, d, g, false, false⟩ x = zeroSt) := Lib.hid (by unfold engR; rw [HN.out]; rfl)
    rw [HN.out, HZ.out]
    go_enter Try.func26, Try.ntmps26
    go_wp2_with fail
    refine (implEngineValid_any l ⟨t, p, f, d, g, false, false⟩ A A' c c' _ (h.below (by (repeat (first | (with_reducible assumption) | (with_reducible exact Below.refl _ _) | (with_reducible refine below_alloc ?_ _) | (with_reducible refine below_setCell ?_ ?_ _; (simp <;> omega)) | (with_reducible refine below_drew ?_) | (with_reducible refine below_drewN ?_ _) | (with_reducible refine below_after ?_ (by assumption)))))) (hg.below (by (repeat (first | (with_reducible assumption) | (with_reducible exact Below.refl _ _) | (with_reducible refine below_alloc ?_ _) | (with_reducible refine below_setCell ?_ ?_ _; (simp <;> omega)) | (with_reducible refine below_drew ?_) | (with_reducible refine below_drewN ?_ _) | (with_reducible refine below_after ?_ (by assumption)))))) e e' hn hn').mono ?_
    rw [h1]
    rintro e w1 ⟨rfl, hb1⟩
    have L1 : Bk w1 (w.heap.size) 29 #[.int .i64 l.id, .int .i64 l.ticks, .int .i64 l.start.x, .int .i64 l.start.y, .slice A l.walls.length c, .slice A' l.gates.length c', .int .i64 l.fin.lo.x, .int .i64 l.fin.lo.y, .int .i64 l.fin.hi.x, .int .i64 l.fin.hi.y, .int .i64 l.bans] := Bk.later (by (repeat (first | (with_reducible assumption) | (with_reducible exact Bk.new _ _ _ (by simp; done)) | (with_reducible refine Bk.alloc ?_ _) | (with_reducible refine Bk.drew ?_) | (with_reducible refine Bk.drewN ?_ _) | (with_reducible apply Bk.set') | (with_reducible refine Bk.far ?_ (by first | omega | (simp; done) | (simp; omega)) _) | (with_reducible refine Bk.later ?_ (by assumption)) | (with_reducible refine Bk.grown ?_ (by assumption) (by first | omega | (simp; done) | (simp; omega))) | (exact SetTo.mk (by with_reducible rfl)) | (exact SetTo.mk (by simp))))) hb1
    have S1 : Bk w1 (w.heap.size + 1) 31 #[.int .i64 t, .int .i64 p.x, .int .i64 p.y, .int .i64 f.x, .int .i64 f.y, .int .i64 d, .int .i64 g, .bool false, .bool false] := Bk.later (by (repeat (first | (with_reducible assumption) | (with_reducible exact Bk.new _ _ _ (by simp; done)) | (with_reducible refine Bk.alloc ?_ _) | (with_reducible refine Bk.drew ?_) | (with_reducible refine Bk.drewN ?_ _) | (with_reducible apply Bk.set') | (with_reducible refine Bk.far ?_ (by first | omega | (simp; done) | (simp; omega)) _) | (with_reducible refine Bk.later ?_ (by assumption)) | (with_reducible refine Bk.grown ?_ (by assumption) (by first | omega | (simp; done) | (simp; omega))) | (exact SetTo.mk (by with_reducible rfl)) | (exact SetTo.mk (by simp))))) hb1
    have X1 : Bk w1 (w.heap.size + 1 + 1) 33 #[.int .i64 x.s, .int .i64 x.p, .bool x.z] := Bk.later (by (repeat (first | (with_reducible assumption) | (with_reducible exact Bk.new _ _ _ (by simp; done)) | (with_reducible refine Bk.alloc ?_ _) | (with_reducible refine Bk.drew ?_) | (with_reducible refine Bk.drewN ?_ _) | (with_reducible apply Bk.set') | (with_reducible refine Bk.far ?_ (by first | omega | (simp; done) | (simp; omega)) _) | (with_reducible refine Bk.later ?_ (by assumption)) | (with_reducible refine Bk.grown ?_ (by assumption) (by first | omega | (simp; done) | (simp; omega))) | (exact SetTo.mk (by with_reducible rfl)) | (exact SetTo.mk (by simp))))) hb1
    have R1 : Bk w1 (w.heap.size + 1 + 1 + 1) 31 #[.int .i64 0, .int .i64 0, .int .i64 0, .int .i64 0, .int .i64 0, .int .i64 0, .int .i64 0, .bool false, .bool false] := Bk.later (by (repeat (first | (with_reducible assumption) | (with_reducible exact Bk.new _ _ _ (by simp; done)) | (with_reducible refine Bk.alloc ?_ _) | (with_reducible refine Bk.drew ?_) | (with_reducible refine Bk.drewN ?_ _) | (with_reducible apply Bk.set') | (with_reducible refine Bk.far ?_ (by first | omega | (simp; done) | (simp; omega)) _) | (with_reducible refine Bk.later ?_ (by assumption)) | (with_reducible refine Bk.grown ?_ (by assumption) (by first | omega | (simp; done) | (simp; omega))) | (exact SetTo.mk (by with_reducible rfl)) | (exact SetTo.mk (by simp))))) hb1
    have d1 : Below w.heap.size w w1 := below_after (by (repeat (first | (with_reducible assumption) | (with_reducible exact Below.refl _ _) | (with_reducible refine below_alloc ?_ _) | (with_reducible refine below_setCell ?_ ?_ _; (simp <;> omega)) | (with_reducible refine below_drew ?_) | (with_reducible refine below_drewN ?_ _) | (with_reducible refine below_after ?_ (by assumption))))) hb1
    have zz1 := R1.lt
    clear hb1
    obtain ⟨⟨l0, l1, l2, l3, l4, l5, l6, l7, l8, l9, l10⟩, lf⟩ := L1.c11; obtain ⟨⟨s0, s1, s2, s3, s4, s5, s6, s7, s8⟩, sf⟩ := S1.c9; obtain ⟨⟨x0, x1, x2⟩, xf⟩ := X1.c3; obtain ⟨⟨r0, r1, r2, r3, r4, r5, r6, r7, r8⟩, rf⟩ := R1.c9
    go_wp2_with fail
    refine (implInputValid_any x _).mono ?_
    rw [h2]
    rintro e w2 ⟨rfl, hb2⟩
    have L2 := L1.later hb2
    have S2 := S1.later hb2
    have X2 := X1.later hb2
    have R2 := R1.later hb2
    have d2 := below_after d1 hb2
    have zz2 := R2.lt
    clear hb2 L1 l0 l1 l2 l3 l4 l5 l6 l7 l8 l9 l10 lf S1 s0 s1 s2 s3 s4 s5 s6 s7 s8 sf X1 x0 x1 x2 xf R1 r0 r1 r2 r3 r4 r5 r6 r7 r8 rf d1 zz1
    obtain ⟨⟨l0, l1, l2, l3, l4, l5, l6, l7, l8, l9, l10⟩, lf⟩ := L2.c11; obtain ⟨⟨s0, s1, s2, s3, s4, s5, s6, s7, s8⟩, sf⟩ := S2.c9; obtain ⟨⟨x0, x1, x2⟩, xf⟩ := X2.c3; obtain ⟨⟨r0, r1, r2, r3, r4, r5, r6, r7, r8⟩, rf⟩ := R2.c9
    go_wp2
    refine bodyPost_ret (v := .tuple #[.agg #[.int .i64 zeroSt.t, .int .i64 zeroSt.p.x, .int .i64 zeroSt.p.y, .int .i64 zeroSt.f.x, .int .i64 zeroSt.f.y, .int .i64 zeroSt.d, .int .i64 zeroSt.g, .bool zeroSt.dn, .bool zeroSt.ov], .bool false]) (by simp [results, Try.results26, go_sem, zeroSt, *]) rfl ⟨rfl, by (repeat (first | (with_reducible assumption) | (with_reducible exact Below.refl _ _) | (with_reducible refine below_alloc ?_ _) | (with_reducible refine below_setCell ?_ ?_ _; (simp <;> omega)) | (with_reducible refine below_drew ?_) | (with_reducible refine below_drewN ?_ _) | (with_reducible refine below_after ?_ (by assumption))))⟩
  · have HN : Hid (engOk l ⟨t, p, f, d, g, false, true⟩ x = true) := Lib.hid (by simp [engOk, h1, h2])
    have HZ : Hid (engR l ⟨t, p, f, d, g, false, true⟩ x = stepS l ⟨t, p, f, d, g, false, true⟩ x) := Lib.hid (by unfold engR; rw [HN.out]; rfl)
    rw [HN.out, HZ.out]
    obtain ⟨sv, hsv⟩ : ∃ sv, stepS l ⟨t, p, f, d, g, false, true⟩ x = sv := ⟨_, rfl⟩
    rw [hsv]
    have HSV := Lib.hid hsv
    clear hsv
    go_enter Try.func26, Try.ntmps26
    go_wp2_with fail
    refine (implEngineValid_any l ⟨t, p, f, d, g, false, true⟩ A A' c c' _ (h.below (by (repeat (first | (with_reducible assumption) | (with_reducible exact Below.refl _ _) | (with_reducible refine below_alloc ?_ _) | (with_reducible refine below_setCell ?_ ?_ _; (simp <;> omega)) | (with_reducible refine below_drew ?_) | (with_reducible refine below_drewN ?_ _) | (with_reducible refine below_after ?_ (by assumption)))))) (hg.below (by (repeat (first | (with_reducible assumption) | (with_reducible exact Below.refl _ _) | (with_reducible refine below_alloc ?_ _) | (with_reducible refine below_setCell ?_ ?_ _; (simp <;> omega)) | (with_reducible refine below_drew ?_) | (with_reducible refine below_drewN ?_ _) | (with_reducible refine below_after ?_ (by assumption)))))) e e' hn hn').mono ?_
    rw [h1]
    rintro e w1 ⟨rfl, hb1⟩
    have L1 : Bk w1 (w.heap.size) 29 #[.int .i64 l.id, .int .i64 l.ticks, .int .i64 l.start.x, .int .i64 l.start.y, .slice A l.walls.length c, .slice A' l.gates.length c', .int .i64 l.fin.lo.x, .int .i64 l.fin.lo.y, .int .i64 l.fin.hi.x, .int .i64 l.fin.hi.y, .int .i64 l.bans] := Bk.later (by (repeat (first | (with_reducible assumption) | (with_reducible exact Bk.new _ _ _ (by simp; done)) | (with_reducible refine Bk.alloc ?_ _) | (with_reducible refine Bk.drew ?_) | (with_reducible refine Bk.drewN ?_ _) | (with_reducible apply Bk.set') | (with_reducible refine Bk.far ?_ (by first | omega | (simp; done) | (simp; omega)) _) | (with_reducible refine Bk.later ?_ (by assumption)) | (with_reducible refine Bk.grown ?_ (by assumption) (by first | omega | (simp; done) | (simp; omega))) | (exact SetTo.mk (by with_reducible rfl)) | (exact SetTo.mk (by simp))))) hb1
    have S1 : Bk w1 (w.heap.size + 1) 31 #[.int .i64 t, .int .i64 p.x, .int .i64 p.y, .int .i64 f.x, .int .i64 f.y, .int .i64 d, .int .i64 g, .bool false, .bool true] := Bk.later (by (repeat (first | (with_reducible assumption) | (with_reducible exact Bk.new _ _ _ (by simp; done)) | (with_reducible refine Bk.alloc ?_ _) | (with_reducible refine Bk.drew ?_) | (with_reducible refine Bk.drewN ?_ _) | (with_reducible apply Bk.set') | (with_reducible refine Bk.far ?_ (by first | omega | (simp; done) | (simp; omega)) _) | (with_reducible refine Bk.later ?_ (by assumption)) | (with_reducible refine Bk.grown ?_ (by assumption) (by first | omega | (simp; done) | (simp; omega))) | (exact SetTo.mk (by with_reducible rfl)) | (exact SetTo.mk (by simp))))) hb1
    have X1 : Bk w1 (w.heap.size + 1 + 1) 33 #[.int .i64 x.s, .int .i64 x.p, .bool x.z] := Bk.later (by (repeat (first | (with_reducible assumption) | (with_reducible exact Bk.new _ _ _ (by simp; done)) | (with_reducible refine Bk.alloc ?_ _) | (with_reducible refine Bk.drew ?_) | (with_reducible refine Bk.drewN ?_ _) | (with_reducible apply Bk.set') | (with_reducible refine Bk.far ?_ (by first | omega | (simp; done) | (simp; omega)) _) | (with_reducible refine Bk.later ?_ (by assumption)) | (with_reducible refine Bk.grown ?_ (by assumption) (by first | omega | (simp; done) | (simp; omega))) | (exact SetTo.mk (by with_reducible rfl)) | (exact SetTo.mk (by simp))))) hb1
    have R1 : Bk w1 (w.heap.size + 1 + 1 + 1) 31 #[.int .i64 0, .int .i64 0, .int .i64 0, .int .i64 0, .int .i64 0, .int .i64 0, .int .i64 0, .bool false, .bool false] := Bk.later (by (repeat (first | (with_reducible assumption) | (with_reducible exact Bk.new _ _ _ (by simp; done)) | (with_reducible refine Bk.alloc ?_ _) | (with_reducible refine Bk.drew ?_) | (with_reducible refine Bk.drewN ?_ _) | (with_reducible apply Bk.set') | (with_reducible refine Bk.far ?_ (by first | omega | (simp; done) | (simp; omega)) _) | (with_reducible refine Bk.later ?_ (by assumption)) | (with_reducible refine Bk.grown ?_ (by assumption) (by first | omega | (simp; done) | (simp; omega))) | (exact SetTo.mk (by with_reducible rfl)) | (exact SetTo.mk (by simp))))) hb1
    have d1 : Below w.heap.size w w1 := below_after (by (repeat (first | (with_reducible assumption) | (with_reducible exact Below.refl _ _) | (with_reducible refine below_alloc ?_ _) | (with_reducible refine below_setCell ?_ ?_ _; (simp <;> omega)) | (with_reducible refine below_drew ?_) | (with_reducible refine below_drewN ?_ _) | (with_reducible refine below_after ?_ (by assumption))))) hb1
    have zz1 := R1.lt
    clear hb1
    obtain ⟨⟨l0, l1, l2, l3, l4, l5, l6, l7, l8, l9, l10⟩, lf⟩ := L1.c11; obtain ⟨⟨s0, s1, s2, s3, s4, s5, s6, s7, s8⟩, sf⟩ := S1.c9; obtain ⟨⟨x0, x1, x2⟩, xf⟩ := X1.c3; obtain ⟨⟨r0, r1, r2, r3, r4, r5, r6, r7, r8⟩, rf⟩ := R1.c9
    go_wp2_with fail
    refine (implInputValid_any x _).mono ?_
    rw [h2]
    rintro e w2 ⟨rfl, hb2⟩
    have L2 := L1.later hb2
    have S2 := S1.later hb2
    have X2 := X1.later hb2
    have R2 := R1.later hb2
    have d2 := below_after d1 hb2
    have zz2 := R2.lt
    clear hb2 L1 l0 l1 l2 l3 l4 l5 l6 l7 l8 l9 l10 lf S1 s0 s1 s2 s3 s4 s5 s6 s7 s8 sf X1 x0 x1 x2 xf R1 r0 r1 r2 r3 r4 r5 r6 r7 r8 rf d1 zz1
    obtain ⟨⟨l0, l1, l2, l3, l4, l5, l6, l7, l8, l9, l10⟩, lf⟩ := L2.c11; obtain ⟨⟨s0, s1, s2, s3, s4, s5, s6, s7, s8⟩, sf⟩ := S2.c9; obtain ⟨⟨x0, x1, x2⟩, xf⟩ := X2.c3; obtain ⟨⟨r0, r1, r2, r3, r4, r5, r6, r7, r8⟩, rf⟩ := R2.c9
    go_wp2_with fail
    refine (after_any l ⟨t, p, f, d, g, false, true⟩ x A A' c c' _ (h.below d2) (hg.below d2) hn HLO.out HSO.out HX.out.1 HX.out.2 HT0.out HT1.out).mono ?_
    rw [HSV.out]
    rintro e w3 ⟨rfl, hb3⟩
    have L3 := L2.later hb3
    have S3 := S2.later hb3
    have X3 := X2.later hb3
    have R3 := R2.later hb3
    have d3 := below_after d2 hb3
    have zz3 := R3.lt
    clear hb3 L2 l0 l1 l2 l3 l4 l5 l6 l7 l8 l9 l10 lf S2 s0 s1 s2 s3 s4 s5 s6 s7 s8 sf X2 x0 x1 x2 xf R2 r0 r1 r2 r3 r4 r5 r6 r7 r8 rf d2 zz2
    obtain ⟨⟨l0, l1, l2, l3, l4, l5, l6, l7, l8, l9, l10⟩, lf⟩ := L3.c11; obtain ⟨⟨s0, s1, s2, s3, s4, s5, s6, s7, s8⟩, sf⟩ := S3.c9; obtain ⟨⟨x0, x1, x2⟩, xf⟩ := X3.c3; obtain ⟨⟨r0, r1, r2, r3, r4, r5, r6, r7, r8⟩, rf⟩ := R3.c9
    go_wp2
    refine bodyPost_ret (v := .tuple #[.agg #[.int .i64 sv.t, .int .i64 sv.p.x, .int .i64 sv.p.y, .int .i64 sv.f.x, .int .i64 sv.f.y, .int .i64 sv.d, .int .i64 sv.g, .bool sv.dn, .bool sv.ov], .bool true]) (by simp [results, Try.results26, go_sem, *]) rfl ⟨rfl, by (repeat (first | (with_reducible assumption) | (with_reducible exact Below.refl _ _) | (with_reducible refine below_alloc ?_ _) | (with_reducible refine below_setCell ?_ ?_ _; (simp <;> omega)) | (with_reducible refine below_drew ?_) | (with_reducible refine below_drewN ?_ _) | (with_reducible refine below_after ?_ (by assumption))))⟩
set_option maxRecDepth 100000 in
set_option maxHeartbeats 4000000 in
theorem specEngineStep_any (l : Lev) (s : St) (x : Inp) (A A' : Option Addr) (c c' : Nat) (w : World) (h : Sl w 4 encBx A l.walls.length l.walls) (hg : Sl w 4 encBx A' l.gates.length l.gates) (hn : (l.walls.length : Nat) ≤ 9223372036854775807) (hn' : (l.gates.length : Nat) ≤ 9223372036854775807) :
    Calls Try.prog 27 #[.agg #[.int .i64 l.id, .int .i64 l.ticks, .int .i64 l.start.x, .int .i64 l.start.y, .slice A l.walls.length c, .slice A' l.gates.length c', .int .i64 l.fin.lo.x, .int .i64 l.fin.lo.y, .int .i64 l.fin.hi.x, .int .i64 l.fin.hi.y, .int .i64 l.bans], .agg #[.int .i64 s.t, .int .i64 s.p.x, .int .i64 s.p.y, .int .i64 s.f.x, .int .i64 s.f.y, .int .i64 s.d, .int .i64 s.g, .bool s.dn, .bool s.ov], .agg #[.int .i64 x.s, .int .i64 x.p, .bool x.z]] w fun e w' => e = .returned (.tuple #[.agg #[.int .i64 (engR l s x).t, .int .i64 (engR l s x).p.x, .int .i64 (engR l s x).p.y, .int .i64 (engR l s x).f.x, .int .i64 (engR l s x).f.y, .int .i64 (engR l s x).d, .int .i64 (engR l s x).g, .bool (engR l s x).dn, .bool (engR l s x).ov], .bool (engOk l s x)]) ∧ Below w.heap.size w w' := by
  cases h1 : validB l s
  · have HN : Hid (engOk l s x = false) := Lib.hid (by simp [engOk, h1])
    have HZ : Hid (engR l s x = zeroSt) := Lib.hid (by unfold engR; rw [HN.out]; rfl)
    rw [HN.out, HZ.out]
    go_enter Try.func27, Try.ntmps27
    go_wp2_with fail
    refine (specEngineValid_any l s A A' c c' _ (h.below (by (repeat (first | (with_reducible assumption) | (with_reducible exact Below.refl _ _) | (with_reducible refine below_alloc ?_ _) | (with_reducible refine below_setCell ?_ ?_ _; (simp <;> omega)) | (with_reducible refine below_drew ?_) | (with_reducible refine below_drewN ?_ _) | (with_reducible refine below_after ?_ (by assumption)))))) (hg.below (by (repeat (first | (with_reducible assumption) | (with_reducible exact Below.refl _ _) | (with_reducible refine below_alloc ?_ _) | (with_reducible refine below_setCell ?_ ?_ _; (simp <;> omega)) | (with_reducible refine below_drew ?_) | (with_reducible refine below_drewN ?_ _) | (with_reducible refine below_after ?_ (by assumption)))))) hn hn').mono ?_
    rw [h1]
    rintro e w1 ⟨rfl, hb1⟩
    have L1 : Bk w1 (w.heap.size) 29 #[.int .i64 l.id, .int .i64 l.ticks, .int .i64 l.start.x, .int .i64 l.start.y, .slice A l.walls.length c, .slice A' l.gates.length c', .int .i64 l.fin.lo.x, .int .i64 l.fin.lo.y, .int .i64 l.fin.hi.x, .int .i64 l.fin.hi.y, .int .i64 l.bans] := Bk.later (by (repeat (first | (with_reducible assumption) | (with_reducible exact Bk.new _ _ _ (by simp; done)) | (with_reducible refine Bk.alloc ?_ _) | (with_reducible refine Bk.drew ?_) | (with_reducible refine Bk.drewN ?_ _) | (with_reducible apply Bk.set') | (with_reducible refine Bk.far ?_ (by first | omega | (simp; done) | (simp; omega)) _) | (with_reducible refine Bk.later ?_ (by assumption)) | (with_reducible refine Bk.grown ?_ (by assumption) (by first | omega | (simp; done) | (simp; omega))) | (exact SetTo.mk (by with_reducible rfl)) | (exact SetTo.mk (by simp))))) hb1
    have S1 : Bk w1 (w.heap.size + 1) 31 #[.int .i64 s.t, .int .i64 s.p.x, .int .i64 s.p.y, .int .i64 s.f.x, .int .i64 s.f.y, .int .i64 s.d, .int .i64 s.g, .bool s.dn, .bool s.ov] := Bk.later (by (repeat (first | (with_reducible assumption) | (with_reducible exact Bk.new _ _ _ (by simp; done)) | (with_reducible refine Bk.alloc ?_ _) | (with_reducible refine Bk.drew ?_) | (with_reducible refine Bk.drewN ?_ _) | (with_reducible apply Bk.set') | (with_reducible refine Bk.far ?_ (by first | omega | (simp; done) | (simp; omega)) _) | (with_reducible refine Bk.later ?_ (by assumption)) | (with_reducible refine Bk.grown ?_ (by assumption) (by first | omega | (simp; done) | (simp; omega))) | (exact SetTo.mk (by with_reducible rfl)) | (exact SetTo.mk (by simp))))) hb1
    have X1 : Bk w1 (w.heap.size + 1 + 1) 33 #[.int .i64 x.s, .int .i64 x.p, .bool x.z] := Bk.later (by (repeat (first | (with_reducible assumption) | (with_reducible exact Bk.new _ _ _ (by simp; done)) | (with_reducible refine Bk.alloc ?_ _) | (with_reducible refine Bk.drew ?_) | (with_reducible refine Bk.drewN ?_ _) | (with_reducible apply Bk.set') | (with_reducible refine Bk.far ?_ (by first | omega | (simp; done) | (simp; omega)) _) | (with_reducible refine Bk.later ?_ (by assumption)) | (with_reducible refine Bk.grown ?_ (by assumption) (by first | omega | (simp; done) | (simp; omega))) | (exact SetTo.mk (by with_reducible rfl)) | (exact SetTo.mk (by simp))))) hb1
    have R1 : Bk w1 (w.heap.size + 1 + 1 + 1) 31 #[.int .i64 0, .int .i64 0, .int .i64 0, .int .i64 0, .int .i64 0, .int .i64 0, .int .i64 0, .bool false, .bool false] := Bk.later (by (repeat (first | (with_reducible assumption) | (with_reducible exact Bk.new _ _ _ (by simp; done)) | (with_reducible refine Bk.alloc ?_ _) | (with_reducible refine Bk.drew ?_) | (with_reducible refine Bk.drewN ?_ _) | (with_reducible apply Bk.set') | (with_reducible refine Bk.far ?_ (by first | omega | (simp; done) | (simp; omega)) _) | (with_reducible refine Bk.later ?_ (by assumption)) | (with_reducible refine Bk.grown ?_ (by assumption) (by first | omega | (simp; done) | (simp; omega))) | (exact SetTo.mk (by with_reducible rfl)) | (exact SetTo.mk (by simp))))) hb1
    have d1 : Below w.heap.size w w1 := below_after (by (repeat (first | (with_reducible assumption) | (with_reducible exact Below.refl _ _) | (with_reducible refine below_alloc ?_ _) | (with_reducible refine below_setCell ?_ ?_ _; (simp <;> omega)) | (with_reducible refine below_drew ?_) | (with_reducible refine below_drewN ?_ _) | (with_reducible refine below_after ?_ (by assumption))))) hb1
    have zz1 := R1.lt
    clear hb1
    obtain ⟨⟨l0, l1, l2, l3, l4, l5, l6, l7, l8, l9, l10⟩, lf⟩ := L1.c11; obtain ⟨⟨s0, s1, s2, s3, s4, s5, s6, s7, s8⟩, sf⟩ := S1.c9; obtain ⟨⟨x0, x1, x2⟩, xf⟩ := X1.c3; obtain ⟨⟨r0, r1, r2, r3, r4, r5, r6, r7, r8⟩, rf⟩ := R1.c9
    go_wp2
    refine bodyPost_ret (v := .tuple #[.agg #[.int .i64 zeroSt.t, .int .i64 zeroSt.p.x, .int .i64 zeroSt.p.y, .int .i64 zeroSt.f.x, .int .i64 zeroSt.f.y, .int .i64 zeroSt.d, .int .i64 zeroSt.g, .bool zeroSt.dn, .bool zeroSt.ov], .bool false]) (by simp [results, Try.results27, go_sem, zeroSt, *]) rfl ⟨rfl, by (repeat (first | (with_reducible assumption) | (with_reducible exact Below.refl _ _) | (with_reducible refine below_alloc ?_ _) | (with_reducible refine below_setCell ?_ ?_ _; (simp <;> omega)) | (with_reducible refine below_drew ?_) | (with_reducible refine below_drewN ?_ _) | (with_reducible refine below_after ?_ (by assumption))))⟩
  cases h2 : inpOk x
  · have HN : Hid (engOk l s x = false) := Lib.hid (by simp [engOk, h2])
    have HZ : Hid (engR l s x = zeroSt) := Lib.hid (by unfold engR; rw [HN.out]; rfl)
    rw [HN.out, HZ.out]
    go_enter Try.func27, Try.ntmps27
    go_wp2_with fail
    refine (specEngineValid_any l s A A' c c' _ (h.below (by (repeat (first | (with_reducible assumption) | (with_reducible exact Below.refl _ _) | (with_reducible refine below_alloc ?_ _) | (with_reducible refine below_setCell ?_ ?_ _; (simp <;> omega)) | (with_reducible refine below_drew ?_) | (with_reducible refine below_drewN ?_ _) | (with_reducible refine below_after ?_ (by assumption)))))) (hg.below (by (repeat (first | (with_reducible assumption) | (with_reducible exact Below.refl _ _) | (with_reducible refine below_alloc ?_ _) | (with_reducible refine below_setCell ?_ ?_ _; (simp <;> omega)) | (with_reducible refine below_drew ?_) | (with_reducible refine below_drewN ?_ _) | (with_reducible refine below_after ?_ (by assumption)))))) hn hn').mono ?_
    rw [h1]
    rintro e w1 ⟨rfl, hb1⟩
    have L1 : Bk w1 (w.heap.size) 29 #[.int .i64 l.id, .int .i64 l.ticks, .int .i64 l.start.x, .int .i64 l.start.y, .slice A l.walls.length c, .slice A' l.gates.length c', .int .i64 l.fin.lo.x, .int .i64 l.fin.lo.y, .int .i64 l.fin.hi.x, .int .i64 l.fin.hi.y, .int .i64 l.bans] := Bk.later (by (repeat (first | (with_reducible assumption) | (with_reducible exact Bk.new _ _ _ (by simp; done)) | (with_reducible refine Bk.alloc ?_ _) | (with_reducible refine Bk.drew ?_) | (with_reducible refine Bk.drewN ?_ _) | (with_reducible apply Bk.set') | (with_reducible refine Bk.far ?_ (by first | omega | (simp; done) | (simp; omega)) _) | (with_reducible refine Bk.later ?_ (by assumption)) | (with_reducible refine Bk.grown ?_ (by assumption) (by first | omega | (simp; done) | (simp; omega))) | (exact SetTo.mk (by with_reducible rfl)) | (exact SetTo.mk (by simp))))) hb1
    have S1 : Bk w1 (w.heap.size + 1) 31 #[.int .i64 s.t, .int .i64 s.p.x, .int .i64 s.p.y, .int .i64 s.f.x, .int .i64 s.f.y, .int .i64 s.d, .int .i64 s.g, .bool s.dn, .bool s.ov] := Bk.later (by (repeat (first | (with_reducible assumption) | (with_reducible exact Bk.new _ _ _ (by simp; done)) | (with_reducible refine Bk.alloc ?_ _) | (with_reducible refine Bk.drew ?_) | (with_reducible refine Bk.drewN ?_ _) | (with_reducible apply Bk.set') | (with_reducible refine Bk.far ?_ (by first | omega | (simp; done) | (simp; omega)) _) | (with_reducible refine Bk.later ?_ (by assumption)) | (with_reducible refine Bk.grown ?_ (by assumption) (by first | omega | (simp; done) | (simp; omega))) | (exact SetTo.mk (by with_reducible rfl)) | (exact SetTo.mk (by simp))))) hb1
    have X1 : Bk w1 (w.heap.size + 1 + 1) 33 #[.int .i64 x.s, .int .i64 x.p, .bool x.z] := Bk.later (by (repeat (first | (with_reducible assumption) | (with_reducible exact Bk.new _ _ _ (by simp; done)) | (with_reducible refine Bk.alloc ?_ _) | (with_reducible refine Bk.drew ?_) | (with_reducible refine Bk.drewN ?_ _) | (with_reducible apply Bk.set') | (with_reducible refine Bk.far ?_ (by first | omega | (simp; done) | (simp; omega)) _) | (with_reducible refine Bk.later ?_ (by assumption)) | (with_reducible refine Bk.grown ?_ (by assumption) (by first | omega | (simp; done) | (simp; omega))) | (exact SetTo.mk (by with_reducible rfl)) | (exact SetTo.mk (by simp))))) hb1
    have R1 : Bk w1 (w.heap.size + 1 + 1 + 1) 31 #[.int .i64 0, .int .i64 0, .int .i64 0, .int .i64 0, .int .i64 0, .int .i64 0, .int .i64 0, .bool false, .bool false] := Bk.later (by (repeat (first | (with_reducible assumption) | (with_reducible exact Bk.new _ _ _ (by simp; done)) | (with_reducible refine Bk.alloc ?_ _) | (with_reducible refine Bk.drew ?_) | (with_reducible refine Bk.drewN ?_ _) | (with_reducible apply Bk.set') | (with_reducible refine Bk.far ?_ (by first | omega | (simp; done) | (simp; omega)) _) | (with_reducible refine Bk.later ?_ (by assumption)) | (with_reducible refine Bk.grown ?_ (by assumption) (by first | omega | (simp; done) | (simp; omega))) | (exact SetTo.mk (by with_reducible rfl)) | (exact SetTo.mk (by simp))))) hb1
    have d1 : Below w.heap.size w w1 := below_after (by (repeat (first | (with_reducible assumption) | (with_reducible exact Below.refl _ _) | (with_reducible refine below_alloc ?_ _) | (with_reducible refine below_setCell ?_ ?_ _; (simp <;> omega)) | (with_reducible refine below_drew ?_) | (with_reducible refine below_drewN ?_ _) | (with_reducible refine below_after ?_ (by assumption))))) hb1
    have zz1 := R1.lt
    clear hb1
    obtain ⟨⟨l0, l1, l2, l3, l4, l5, l6, l7, l8, l9, l10⟩, lf⟩ := L1.c11; obtain ⟨⟨s0, s1, s2, s3, s4, s5, s6, s7, s8⟩, sf⟩ := S1.c9; obtain ⟨⟨x0, x1, x2⟩, xf⟩ := X1.c3; obtain ⟨⟨r0, r1, r2, r3, r4, r5, r6, r7, r8⟩, rf⟩ := R1.c9
    go_wp2_with fail
    refine (specInputValid_any x _).mono ?_
    rw [h2]
    rintro e w2 ⟨rfl, hb2⟩
    have L2 := L1.later hb2
    have S2 := S1.later hb2
    have X2 := X1.later hb2
    have R2 := R1.later hb2
    have d2 := below_after d1 hb2
    have zz2 := R2.lt
    clear hb2 L1 l0 l1 l2 l3 l4 l5 l6 l7 l8 l9 l10 lf S1 s0 s1 s2 s3 s4 s5 s6 s7 s8 sf X1 x0 x1 x2 xf R1 r0 r1 r2 r3 r4 r5 r6 r7 r8 rf d1 zz1
    obtain ⟨⟨l0, l1, l2, l3, l4, l5, l6, l7, l8, l9, l10⟩, lf⟩ := L2.c11; obtain ⟨⟨s0, s1, s2, s3, s4, s5, s6, s7, s8⟩, sf⟩ := S2.c9; obtain ⟨⟨x0, x1, x2⟩, xf⟩ := X2.c3; obtain ⟨⟨r0, r1, r2, r3, r4, r5, r6, r7, r8⟩, rf⟩ := R2.c9
    go_wp2
    refine bodyPost_ret (v := .tuple #[.agg #[.int .i64 zeroSt.t, .int .i64 zeroSt.p.x, .int .i64 zeroSt.p.y, .int .i64 zeroSt.f.x, .int .i64 zeroSt.f.y, .int .i64 zeroSt.d, .int .i64 zeroSt.g, .bool zeroSt.dn, .bool zeroSt.ov], .bool false]) (by simp [results, Try.results27, go_sem, zeroSt, *]) rfl ⟨rfl, by (repeat (first | (with_reducible assumption) | (with_reducible exact Below.refl _ _) | (with_reducible refine below_alloc ?_ _) | (with_reducible refine below_setCell ?_ ?_ _; (simp <;> omega)) | (with_reducible refine below_drew ?_) | (with_reducible refine below_drewN ?_ _) | (with_reducible refine below_after ?_ (by assumption))))⟩
  obtain ⟨g1, g2, g3, g4, g5, g6⟩ := validB_iff.1 h1
  have HLO := Lib.hid g1
  have HSO := Lib.hid (valid_sOk h1)
  have HX := Lib.hid (inpOk_s h2)
  have HT0 := Lib.hid (ownB_iff.1 g2).1.1
  have HT1 : Hid (s.t ≤ 1000) := Lib.hid (by have := (ownB_iff.1 g2).1.2; omega)
  have HT2 : Hid (s.t ≤ 1000000) := Lib.hid (by have := (ownB_iff.1 g2).1.2; omega)
  have HGL : Hid (l.gates.length ≤ 1000000) := Lib.hid (by have := (levOk_iff.1 g1).2.2.2.2.2.1; omega)
  clear g1 g2 g4 g5 g6
  by_cases ht : s.t = l.ticks
  rotate_left
  · have hne : (s.t == l.ticks) = false := by simpa using ht
    have hlt : s.t < l.ticks := by omega
    have HN : Hid (engOk l s x = true) := Lib.hid (by simp [engOk, h1, h2, ht])
    have HZ : Hid (engR l s x = stepS l s x) := Lib.hid (by unfold engR; rw [HN.out]; rfl)
    rw [HN.out, HZ.out]
    obtain ⟨sv, hsv⟩ : ∃ sv, stepS l s x = sv := ⟨_, rfl⟩
    rw [hsv]
    have HSV := Lib.hid hsv
    clear hsv
    go_enter Try.func27, Try.ntmps27
    go_wp2_with fail
    refine (specEngineValid_any l s A A' c c' _ (h.below (by (repeat (first | (with_reducible assumption) | (with_reducible exact Below.refl _ _) | (with_reducible refine below_alloc ?_ _) | (with_reducible refine below_setCell ?_ ?_ _; (simp <;> omega)) | (with_reducible refine below_drew ?_) | (with_reducible refine below_drewN ?_ _) | (with_reducible refine below_after ?_ (by assumption)))))) (hg.below (by (repeat (first | (with_reducible assumption) | (with_reducible exact Below.refl _ _) | (with_reducible refine below_alloc ?_ _) | (with_reducible refine below_setCell ?_ ?_ _; (simp <;> omega)) | (with_reducible refine below_drew ?_) | (with_reducible refine below_drewN ?_ _) | (with_reducible refine below_after ?_ (by assumption)))))) hn hn').mono ?_
    rw [h1]
    rintro e w1 ⟨rfl, hb1⟩
    have L1 : Bk w1 (w.heap.size) 29 #[.int .i64 l.id, .int .i64 l.ticks, .int .i64 l.start.x, .int .i64 l.start.y, .slice A l.walls.length c, .slice A' l.gates.length c', .int .i64 l.fin.lo.x, .int .i64 l.fin.lo.y, .int .i64 l.fin.hi.x, .int .i64 l.fin.hi.y, .int .i64 l.bans] := Bk.later (by (repeat (first | (with_reducible assumption) | (with_reducible exact Bk.new _ _ _ (by simp; done)) | (with_reducible refine Bk.alloc ?_ _) | (with_reducible refine Bk.drew ?_) | (with_reducible refine Bk.drewN ?_ _) | (with_reducible apply Bk.set') | (with_reducible refine Bk.far ?_ (by first | omega | (simp; done) | (simp; omega)) _) | (with_reducible refine Bk.later ?_ (by assumption)) | (with_reducible refine Bk.grown ?_ (by assumption) (by first | omega | (simp; done) | (simp; omega))) | (exact SetTo.mk (by with_reducible rfl)) | (exact SetTo.mk (by simp))))) hb1
    have S1 : Bk w1 (w.heap.size + 1) 31 #[.int .i64 s.t, .int .i64 s.p.x, .int .i64 s.p.y, .int .i64 s.f.x, .int .i64 s.f.y, .int .i64 s.d, .int .i64 s.g, .bool s.dn, .bool s.ov] := Bk.later (by (repeat (first | (with_reducible assumption) | (with_reducible exact Bk.new _ _ _ (by simp; done)) | (with_reducible refine Bk.alloc ?_ _) | (with_reducible refine Bk.drew ?_) | (with_reducible refine Bk.drewN ?_ _) | (with_reducible apply Bk.set') | (with_reducible refine Bk.far ?_ (by first | omega | (simp; done) | (simp; omega)) _) | (with_reducible refine Bk.later ?_ (by assumption)) | (with_reducible refine Bk.grown ?_ (by assumption) (by first | omega | (simp; done) | (simp; omega))) | (exact SetTo.mk (by with_reducible rfl)) | (exact SetTo.mk (by simp))))) hb1
    have X1 : Bk w1 (w.heap.size + 1 + 1) 33 #[.int .i64 x.s, .int .i64 x.p, .bool x.z] := Bk.later (by (repeat (first | (with_reducible assumption) | (with_reducible exact Bk.new _ _ _ (by simp; done)) | (with_reducible refine Bk.alloc ?_ _) | (with_reducible refine Bk.drew ?_) | (with_reducible refine Bk.drewN ?_ _) | (with_reducible apply Bk.set') | (with_reducible refine Bk.far ?_ (by first | omega | (simp; done) | (simp; omega)) _) | (with_reducible refine Bk.later ?_ (by assumption)) | (with_reducible refine Bk.grown ?_ (by assumption) (by first | omega | (simp; done) | (simp; omega))) | (exact SetTo.mk (by with_reducible rfl)) | (exact SetTo.mk (by simp))))) hb1
    have R1 : Bk w1 (w.heap.size + 1 + 1 + 1) 31 #[.int .i64 0, .int .i64 0, .int .i64 0, .int .i64 0, .int .i64 0, .int .i64 0, .int .i64 0, .bool false, .bool false] := Bk.later (by (repeat (first | (with_reducible assumption) | (with_reducible exact Bk.new _ _ _ (by simp; done)) | (with_reducible refine Bk.alloc ?_ _) | (with_reducible refine Bk.drew ?_) | (with_reducible refine Bk.drewN ?_ _) | (with_reducible apply Bk.set') | (with_reducible refine Bk.far ?_ (by first | omega | (simp; done) | (simp; omega)) _) | (with_reducible refine Bk.later ?_ (by assumption)) | (with_reducible refine Bk.grown ?_ (by assumption) (by first | omega | (simp; done) | (simp; omega))) | (exact SetTo.mk (by with_reducible rfl)) | (exact SetTo.mk (by simp))))) hb1
    have d1 : Below w.heap.size w w1 := below_after (by (repeat (first | (with_reducible assumption) | (with_reducible exact Below.refl _ _) | (with_reducible refine below_alloc ?_ _) | (with_reducible refine below_setCell ?_ ?_ _; (simp <;> omega)) | (with_reducible refine below_drew ?_) | (with_reducible refine below_drewN ?_ _) | (with_reducible refine below_after ?_ (by assumption))))) hb1
    have zz1 := R1.lt
    clear hb1
    obtain ⟨⟨l0, l1, l2, l3, l4, l5, l6, l7, l8, l9, l10⟩, lf⟩ := L1.c11; obtain ⟨⟨s0, s1, s2, s3, s4, s5, s6, s7, s8⟩, sf⟩ := S1.c9; obtain ⟨⟨x0, x1, x2⟩, xf⟩ := X1.c3; obtain ⟨⟨r0, r1, r2, r3, r4, r5, r6, r7, r8⟩, rf⟩ := R1.c9
    go_wp2_with fail
    refine (specInputValid_any x _).mono ?_
    rw [h2]
    rintro e w2 ⟨rfl, hb2⟩
    have L2 := L1.later hb2
    have S2 := S1.later hb2
    have X2 := X1.later hb2
    have R2 := R1.later hb2
    have d2 := below_after d1 hb2
    have zz2 := R2.lt
    clear hb2 L1 l0 l1 l2 l3 l4 l5 l6 l7 l8 l9 l10 lf S1 s0 s1 s2 s3 s4 s5 s6 s7 s8 sf X1 x0 x1 x2 xf R1 r0 r1 r2 r3 r4 r5 r6 r7 r8 rf d1 zz1
    obtain ⟨⟨l0, l1, l2, l3, l4, l5, l6, l7, l8, l9, l10⟩, lf⟩ := L2.c11; obtain ⟨⟨s0, s1, s2, s3, s4, s5, s6, s7, s8⟩, sf⟩ := S2.c9; obtain ⟨⟨x0, x1, x2⟩, xf⟩ := X2.c3; obtain ⟨⟨r0, r1, r2, r3, r4, r5, r6, r7, r8⟩, rf⟩ := R2.c9
    go_wp2_with fail
    refine (l13Step_any l s x A A' c c' _ (h.below d2) (hg.below d2) hn (walls_bd (levOk_walls HLO.out)) HSO.out HGL.out HT0.out HT2.out HX.out).mono ?_
    rw [HSV.out]
    rintro e w3 ⟨rfl, hb3⟩
    have L3 := L2.later hb3
    have S3 := S2.later hb3
    have X3 := X2.later hb3
    have R3 := R2.later hb3
    have d3 := below_after d2 hb3
    have zz3 := R3.lt
    clear hb3 L2 l0 l1 l2 l3 l4 l5 l6 l7 l8 l9 l10 lf S2 s0 s1 s2 s3 s4 s5 s6 s7 s8 sf X2 x0 x1 x2 xf R2 r0 r1 r2 r3 r4 r5 r6 r7 r8 rf d2 zz2
    obtain ⟨⟨l0, l1, l2, l3, l4, l5, l6, l7, l8, l9, l10⟩, lf⟩ := L3.c11; obtain ⟨⟨s0, s1, s2, s3, s4, s5, s6, s7, s8⟩, sf⟩ := S3.c9; obtain ⟨⟨x0, x1, x2⟩, xf⟩ := X3.c3; obtain ⟨⟨r0, r1, r2, r3, r4, r5, r6, r7, r8⟩, rf⟩ := R3.c9
    go_wp2
    refine bodyPost_ret (v := .tuple #[.agg #[.int .i64 sv.t, .int .i64 sv.p.x, .int .i64 sv.p.y, .int .i64 sv.f.x, .int .i64 sv.f.y, .int .i64 sv.d, .int .i64 sv.g, .bool sv.dn, .bool sv.ov], .bool true]) (by simp [results, Try.results27, go_sem, *]) rfl ⟨rfl, by (repeat (first | (with_reducible assumption) | (with_reducible exact Below.refl _ _) | (with_reducible refine below_alloc ?_ _) | (with_reducible refine below_setCell ?_ ?_ _; (simp <;> omega)) | (with_reducible refine below_drew ?_) | (with_reducible refine below_drewN ?_ _) | (with_reducible refine below_after ?_ (by assumption))))⟩
  have heq : (s.t == l.ticks) = true := by simpa using ht
  have hge : l.ticks ≤ s.t := by omega
  have HT := Lib.hid ht
  clear ht g3
  obtain ⟨t, p, f, d, g, dn, ov⟩ := s
  simp only at *
  cases dn
  rotate_left
  · have HN : Hid (engOk l ⟨t, p, f, d, g, true, ov⟩ x = true) := Lib.hid (by simp [engOk, h1, h2])
    have HZ : Hid (engR l ⟨t, p, f, d, g, true, ov⟩ x = stepS l ⟨t, p, f, d, g, true, ov⟩ x) := Lib.hid (by unfold engR; rw [HN.out]; rfl)
    rw [HN.out, HZ.out]
    obtain ⟨sv, hsv⟩ : ∃ sv, stepS l ⟨t, p, f, d, g, true, ov⟩ x = sv := ⟨_, rfl⟩
    rw [hsv]
    have HSV := Lib.hid hsv
    clear hsv
    go_enter Try.func27, Try.ntmps27
    go_wp2_with fail
    refine (specEngineValid_any l ⟨t, p, f, d, g, true, ov⟩ A A' c c' _ (h.below (by (repeat (first | (with_reducible assumption) | (with_reducible exact Below.refl _ _) | (with_reducible refine below_alloc ?_ _) | (with_reducible refine below_setCell ?_ ?_ _; (simp <;> omega)) | (with_reducible refine below_drew ?_) | (with_reducible refine below_drewN ?_ _) | (with_reducible refine below_after ?_ (by assumption)))))) (hg.below (by (repeat (first | (with_reducible assumption) | (with_reducible exact Below.refl _ _) | (with_reducible refine below_alloc ?_ _) | (with_reducible refine below_setCell ?_ ?_ _; (simp <;> omega)) | (with_reducible refine below_drew ?_) | (with_reducible refine below_drewN ?_ _) | (with_reducible refine below_after ?_ (by assumption)))))) hn hn').mono ?_
    rw [h1]
    rintro e w1 ⟨rfl, hb1⟩
    have L1 : Bk w1 (w.heap.size) 29 #[.int .i64 l.id, .int .i64 l.ticks, .int .i64 l.start.x, .int .i64 l.start.y, .slice A l.walls.length c, .slice A' l.gates.length c', .int .i64 l.fin.lo.x, .int .i64 l.fin.lo.y, .int .i64 l.fin.hi.x, .int .i64 l.fin.hi.y, .int .i64 l.bans] := Bk.later (by (repeat (first | (with_reducible assumption) | (with_reducible exact Bk.new _ _ _ (by simp; done)) | (with_reducible refine Bk.alloc ?_ _) | (with_reducible refine Bk.drew ?_) | (with_reducible refine Bk.drewN ?_ _) | (with_reducible apply Bk.set') | (with_reducible refine Bk.far ?_ (by first | omega | (simp; done) | (simp; omega)) _) | (with_reducible refine Bk.later ?_ (by assumption)) | (with_reducible refine Bk.grown ?_ (by assumption) (by first | omega | (simp; done) | (simp; omega))) | (exact SetTo.mk (by with_reducible rfl)) | (exact SetTo.mk (by simp))))) hb1
    have S1 : Bk w1 (w.heap.size + 1) 31 #[.int .i64 t, .int .i64 p.x, .int .i64 p.y, .int .i64 f.x, .int .i64 f.y, .int .i64 d, .int .i64 g, .bool true, .bool ov] := Bk.later (by (repeat (first | (with_reducible assumption) | (with_reducible exact Bk.new _ _ _ (by simp; done)) | (with_reducible refine Bk.alloc ?_ _) | (with_reducible refine Bk.drew ?_) | (with_reducible refine Bk.drewN ?_ _) | (with_reducible apply Bk.set') | (with_reducible refine Bk.far ?_ (by first | omega | (simp; done) | (simp; omega)) _) | (with_reducible refine Bk.later ?_ (by assumption)) | (with_reducible refine Bk.grown ?_ (by assumption) (by first | omega | (simp; done) | (simp; omega))) | (exact SetTo.mk (by with_reducible rfl)) | (exact SetTo.mk (by simp))))) hb1
    have X1 : Bk w1 (w.heap.size + 1 + 1) 33 #[.int .i64 x.s, .int .i64 x.p, .bool x.z] := Bk.later (by (repeat (first | (with_reducible assumption) | (with_reducible exact Bk.new _ _ _ (by simp; done)) | (with_reducible refine Bk.alloc ?_ _) | (with_reducible refine Bk.drew ?_) | (with_reducible refine Bk.drewN ?_ _) | (with_reducible apply Bk.set') | (with_reducible refine Bk.far ?_ (by first | omega | (simp; done) | (simp; omega)) _) | (with_reducible refine Bk.later ?_ (by assumption)) | (with_reducible refine Bk.grown ?_ (by assumption) (by first | omega | (simp; done) | (simp; omega))) | (exact SetTo.mk (by with_reducible rfl)) | (exact SetTo.mk (by simp))))) hb1
    have R1 : Bk w1 (w.heap.size + 1 + 1 + 1) 31 #[.int .i64 0, .int .i64 0, .int .i64 0, .int .i64 0, .int .i64 0, .int .i64 0, .int .i64 0, .bool false, .bool false] := Bk.later (by (repeat (first | (with_reducible assumption) | (with_reducible exact Bk.new _ _ _ (by simp; done)) | (with_reducible refine Bk.alloc ?_ _) | (with_reducible refine Bk.drew ?_) | (with_reducible refine Bk.drewN ?_ _) | (with_reducible apply Bk.set') | (with_reducible refine Bk.far ?_ (by first | omega | (simp; done) | (simp; omega)) _) | (with_reducible refine Bk.later ?_ (by assumption)) | (with_reducible refine Bk.grown ?_ (by assumption) (by first | omega | (simp; done) | (simp; omega))) | (exact SetTo.mk (by with_reducible rfl)) | (exact SetTo.mk (by simp))))) hb1
    have d1 : Below w.heap.size w w1 := below_after (by (repeat (first | (with_reducible assumption) | (with_reducible exact Below.refl _ _) | (with_reducible refine below_alloc ?_ _) | (with_reducible refine below_setCell ?_ ?_ _; (simp <;> omega)) | (with_reducible refine below_drew ?_) | (with_reducible refine below_drewN ?_ _) | (with_reducible refine below_after ?_ (by assumption))))) hb1
    have zz1 := R1.lt
    clear hb1
    obtain ⟨⟨l0, l1, l2, l3, l4, l5, l6, l7, l8, l9, l10⟩, lf⟩ := L1.c11; obtain ⟨⟨s0, s1, s2, s3, s4, s5, s6, s7, s8⟩, sf⟩ := S1.c9; obtain ⟨⟨x0, x1, x2⟩, xf⟩ := X1.c3; obtain ⟨⟨r0, r1, r2, r3, r4, r5, r6, r7, r8⟩, rf⟩ := R1.c9
    go_wp2_with fail
    refine (specInputValid_any x _).mono ?_
    rw [h2]
    rintro e w2 ⟨rfl, hb2⟩
    have L2 := L1.later hb2
    have S2 := S1.later hb2
    have X2 := X1.later hb2
    have R2 := R1.later hb2
    have d2 := below_after d1 hb2
    have zz2 := R2.lt
    clear hb2 L1 l0 l1 l2 l3 l4 l5 l6 l7 l8 l9 l10 lf S1 s0 s1 s2 s3 s4 s5 s6 s7 s8 sf X1 x0 x1 x2 xf R1 r0 r1 r2 r3 r4 r5 r6 r7 r8 rf d1 zz1
    obtain ⟨⟨l0, l1, l2, l3, l4, l5, l6, l7, l8, l9, l10⟩, lf⟩ := L2.c11; obtain ⟨⟨s0, s1, s2, s3, s4, s5, s6, s7, s8⟩, sf⟩ := S2.c9; obtain ⟨⟨x0, x1, x2⟩, xf⟩ := X2.c3; obtain ⟨⟨r0, r1, r2, r3, r4, r5, r6, r7, r8⟩, rf⟩ := R2.c9
    go_wp2_with fail
    refine (l13Step_any l ⟨t, p, f, d, g, true, ov⟩ x A A' c c' _ (h.below d2) (hg.below d2) hn (walls_bd (levOk_walls HLO.out)) HSO.out HGL.out HT0.out HT2.out HX.out).mono ?_
    rw [HSV.out]
    rintro e w3 ⟨rfl, hb3⟩
    have L3 := L2.later hb3
    have S3 := S2.later hb3
    have X3 := X2.later hb3
    have R3 := R2.later hb3
    have d3 := below_after d2 hb3
    have zz3 := R3.lt
    clear hb3 L2 l0 l1 l2 l3 l4 l5 l6 l7 l8 l9 l10 lf S2 s0 s1 s2 s3 s4 s5 s6 s7 s8 sf X2 x0 x1 x2 xf R2 r0 r1 r2 r3 r4 r5 r6 r7 r8 rf d2 zz2
    obtain ⟨⟨l0, l1, l2, l3, l4, l5, l6, l7, l8, l9, l10⟩, lf⟩ := L3.c11; obtain ⟨⟨s0, s1, s2, s3, s4, s5, s6, s7, s8⟩, sf⟩ := S3.c9; obtain ⟨⟨x0, x1, x2⟩, xf⟩ := X3.c3; obtain ⟨⟨r0, r1, r2, r3, r4, r5, r6, r7, r8⟩, rf⟩ := R3.c9
    go_wp2
    refine bodyPost_ret (v := .tuple #[.agg #[.int .i64 sv.t, .int .i64 sv.p.x, .int .i64 sv.p.y, .int .i64 sv.f.x, .int .i64 sv.f.y, .int .i64 sv.d, .int .i64 sv.g, .bool sv.dn, .bool sv.ov], .bool true]) (by simp [results, Try.results27, go_sem, *]) rfl ⟨rfl, by (repeat (first | (with_reducible assumption) | (with_reducible exact Below.refl _ _) | (with_reducible refine below_alloc ?_ _) | (with_reducible refine below_setCell ?_ ?_ _; (simp <;> omega)) | (with_reducible refine below_drew ?_) | (with_reducible refine below_drewN ?_ _) | (with_reducible refine below_after ?_ (by assumption))))⟩
  cases ov
  · have HN : Hid (engOk l ⟨t, p, f, d, g, false, false⟩ x = false) := Lib.hid (by simp [engOk, HT.out])
    have HZ : Hid (engR l ⟨t, p, f, d, g, false, false⟩ x = zeroSt) := Lib.hid (by unfold engR; rw [HN.out]; rfl)
    rw [HN.out, HZ.out]
    go_enter Try.func27, Try.ntmps27
    go_wp2_with fail
    refine (specEngineValid_any l ⟨t, p, f, d, g, false, false⟩ A A' c c' _ (h.below (by (repeat (first | (with_reducible assumption) | (with_reducible exact Below.refl _ _) | (with_reducible refine below_alloc ?_ _) | (with_reducible refine below_setCell ?_ ?_ _; (simp <;> omega)) | (with_reducible refine below_drew ?_) | (with_reducible refine below_drewN ?_ _) | (with_reducible refine below_after ?_ (by assumption)))))) (hg.below (by (repeat (first | (with_reducible assumption) | (with_reducible exact Below.refl _ _) | (with_reducible refine below_alloc ?_ _) | (with_reducible refine below_setCell ?_ ?_ _; (simp <;> omega)) | (with_reducible refine below_drew ?_) | (with_reducible refine below_drewN ?_ _) | (with_reducible refine below_after ?_ (by assumption)))))) hn hn').mono ?_
    rw [h1]
    rintro e w1 ⟨rfl, hb1⟩
    have L1 : Bk w1 (w.heap.size) 29 #[.int .i64 l.id, .int .i64 l.ticks, .int .i64 l.start.x, .int .i64 l.start.y, .slice A l.walls.length c, .slice A' l.gates.length c', .int .i64 l.fin.lo.x, .int .i64 l.fin.lo.y, .int .i64 l.fin.hi.x, .int .i64 l.fin.hi.y, .int .i64 l.bans] := Bk.later (by (repeat (first | (with_reducible assumption) | (with_reducible exact Bk.new _ _ _ (by simp; done)) | (with_reducible refine Bk.alloc ?_ _) | (with_reducible refine Bk.drew ?_) | (with_reducible refine Bk.drewN ?_ _) | (with_reducible apply Bk.set') | (with_reducible refine Bk.far ?_ (by first | omega | (simp; done) | (simp; omega)) _) | (with_reducible refine Bk.later ?_ (by assumption)) | (with_reducible refine Bk.grown ?_ (by assumption) (by first | omega | (simp; done) | (simp; omega))) | (exact SetTo.mk (by with_reducible rfl)) | (exact SetTo.mk (by simp))))) hb1
    have S1 : Bk w1 (w.heap.size + 1) 31 #[.int .i64 t, .int .i64 p.x, .int .i64 p.y, .int .i64 f.x, .int .i64 f.y, .int .i64 d, .int .i64 g, .bool false, .bool false] := Bk.later (by (repeat (first | (with_reducible assumption) | (with_reducible exact Bk.new _ _ _ (by simp; done)) | (with_reducible refine Bk.alloc ?_ _) | (with_reducible refine Bk.drew ?_) | (with_reducible refine Bk.drewN ?_ _) | (with_reducible apply Bk.set') | (with_reducible refine Bk.far ?_ (by first | omega | (simp; done) | (simp; omega)) _) | (with_reducible refine Bk.later ?_ (by assumption)) | (with_reducible refine Bk.grown ?_ (by assumption) (by first | omega | (simp; done) | (simp; omega))) | (exact SetTo.mk (by with_reducible rfl)) | (exact SetTo.mk (by simp))))) hb1
    have X1 : Bk w1 (w.heap.size + 1 + 1) 33 #[.int .i64 x.s, .int .i64 x.p, .bool x.z] := Bk.later (by (repeat (first | (with_reducible assumption) | (with_reducible exact Bk.new _ _ _ (by simp; done)) | (with_reducible refine Bk.alloc ?_ _) | (with_reducible refine Bk.drew ?_) | (with_reducible refine Bk.drewN ?_ _) | (with_reducible apply Bk.set') | (with_reducible refine Bk.far ?_ (by first | omega | (simp; done) | (simp; omega)) _) | (with_reducible refine Bk.later ?_ (by assumption)) | (with_reducible refine Bk.grown ?_ (by assumption) (by first | omega | (simp; done) | (simp; omega))) | (exact SetTo.mk (by with_reducible rfl)) | (exact SetTo.mk (by simp))))) hb1
    have R1 : Bk w1 (w.heap.size + 1 + 1 + 1) 31 #[.int .i64 0, .int .i64 0, .int .i64 0, .int .i64 0, .int .i64 0, .int .i64 0, .int .i64 0, .bool false, .bool false] := Bk.later (by (repeat (first | (with_reducible assumption) | (with_reducible exact Bk.new _ _ _ (by simp; done)) | (with_reducible refine Bk.alloc ?_ _) | (with_reducible refine Bk.drew ?_) | (with_reducible refine Bk.drewN ?_ _) | (with_reducible apply Bk.set') | (with_reducible refine Bk.far ?_ (by first | omega | (simp; done) | (simp; omega)) _) | (with_reducible refine Bk.later ?_ (by assumption)) | (with_reducible refine Bk.grown ?_ (by assumption) (by first | omega | (simp; done) | (simp; omega))) | (exact SetTo.mk (by with_reducible rfl)) | (exact SetTo.mk (by simp))))) hb1
    have d1 : Below w.heap.size w w1 := below_after (by (repeat (first | (with_reducible assumption) | (with_reducible exact Below.refl _ _) | (with_reducible refine below_alloc ?_ _) | (with_reducible refine below_setCell ?_ ?_ _; (simp <;> omega)) | (with_reducible refine below_drew ?_) | (with_reducible refine below_drewN ?_ _) | (with_reducible refine below_after ?_ (by assumption))))) hb1
    have zz1 := R1.lt
    clear hb1
    obtain ⟨⟨l0, l1, l2, l3, l4, l5, l6, l7, l8, l9, l10⟩, lf⟩ := L1.c11; obtain ⟨⟨s0, s1, s2, s3, s4, s5, s6, s7, s8⟩, sf⟩ := S1.c9; obtain ⟨⟨x0, x1, x2⟩, xf⟩ := X1.c3; obtain ⟨⟨r0, r1, r2, r3, r4, r5, r6, r7, r8⟩, rf⟩ := R1.c9
    go_wp2_with fail
    refine (specInputValid_any x _).mono ?_
    rw [h2]
    rintro e w2 ⟨rfl, hb2⟩
    have L2 := L1.later hb2
    have S2 := S1.later hb2
    have X2 := X1.later hb2
    have R2 := R1.later hb2
    have d2 := below_after d1 hb2
    have zz2 := R2.lt
    clear hb2 L1 l0 l1 l2 l3 l4 l5 l6 l7 l8 l9 l10 lf S1 s0 s1 s2 s3 s4 s5 s6 s7 s8 sf X1 x0 x1 x2 xf R1 r0 r1 r2 r3 r4 r5 r6 r7 r8 rf d1 zz1
    obtain ⟨⟨l0, l1, l2, l3, l4, l5, l6, l7, l8, l9, l10⟩, lf⟩ := L2.c11; obtain ⟨⟨s0, s1, s2, s3, s4, s5, s6, s7, s8⟩, sf⟩ := S2.c9; obtain ⟨⟨x0, x1, x2⟩, xf⟩ := X2.c3; obtain ⟨⟨r0, r1, r2, r3, r4, r5, r6, r7, r8⟩, rf⟩ := R2.c9
    go_wp2
    refine bodyPost_ret (v := .tuple #[.agg #[.int .i64 zeroSt.t, .int .i64 zeroSt.p.x, .int .i64 zeroSt.p.y, .int .i64 zeroSt.f.x, .int .i64 zeroSt.f.y, .int .i64 zeroSt.d, .int .i64 zeroSt.g, .bool zeroSt.dn, .bool zeroSt.ov], .bool false]) (by simp [results, Try.results27, go_sem, zeroSt, *]) rfl ⟨rfl, by (repeat (first | (with_reducible assumption) | (with_reducible exact Below.refl _ _) | (with_reducible refine below_alloc ?_ _) | (with_reducible refine below_setCell ?_ ?_ _; (simp <;> omega)) | (with_reducible refine below_drew ?_) | (with_reducible refine below_drewN ?_ _) | (with_reducible refine below_after ?_ (by assumption))))⟩
  · have HN : Hid (engOk l ⟨t, p, f, d, g, false, true⟩ x = true) := Lib.hid (by simp [engOk, h1, h2])
    have HZ : Hid (engR l ⟨t, p, f, d, g, false, true⟩ x = stepS l ⟨t, p, f, d, g, false, true⟩ x) := Lib.hid (by unfold engR; rw [HN.out]; rfl)
    rw [HN.out, HZ.out]
    obtain ⟨sv, hsv⟩ : ∃ sv, stepS l ⟨t, p, f, d, g, false, true⟩ x = sv := ⟨_, rfl⟩
    rw [hsv]
    have HSV := Lib.hid hsv
    clear hsv
    go_enter Try.func27, Try.ntmps27
    go_wp2_with fail
    refine (specEngineValid_any l ⟨t, p, f, d, g, false, true⟩ A A' c c' _ (h.below (by (repeat (first | (with_reducible assumption) | (with_reducible exact Below.refl _ _) | (with_reducible refine below_alloc ?_ _) | (with_reducible refine below_setCell ?_ ?_ _; (simp <;> omega)) | (with_reducible refine below_drew ?_) | (with_reducible refine below_drewN ?_ _) | (with_reducible refine below_after ?_ (by assumption)))))) (hg.below (by (repeat (first | (with_reducible assumption) | (with_reducible exact Below.refl _ _) | (with_reducible refine below_alloc ?_ _) | (with_reducible refine below_setCell ?_ ?_ _; (simp <;> omega)) | (with_reducible refine below_drew ?_) | (with_reducible refine below_drewN ?_ _) | (with_reducible refine below_after ?_ (by assumption)))))) hn hn').mono ?_
    rw [h1]
    rintro e w1 ⟨rfl, hb1⟩
    have L1 : Bk w1 (w.heap.size) 29 #[.int .i64 l.id, .int .i64 l.ticks, .int .i64 l.start.x, .int .i64 l.start.y, .slice A l.walls.length c, .slice A' l.gates.length c', .int .i64 l.fin.lo.x, .int .i64 l.fin.lo.y, .int .i64 l.fin.hi.x, .int .i64 l.fin.hi.y, .int .i64 l.bans] := Bk.later (by (repeat (first | (with_reducible assumption) | (with_reducible exact Bk.new _ _ _ (by simp; done)) | (with_reducible refine Bk.alloc ?_ _) | (with_reducible refine Bk.drew ?_) | (with_reducible refine Bk.drewN ?_ _) | (with_reducible apply Bk.set') | (with_reducible refine Bk.far ?_ (by first | omega | (simp; done) | (simp; omega)) _) | (with_reducible refine Bk.later ?_ (by assumption)) | (with_reducible refine Bk.grown ?_ (by assumption) (by first | omega | (simp; done) | (simp; omega))) | (exact SetTo.mk (by with_reducible rfl)) | (exact SetTo.mk (by simp))))) hb1
    have S1 : Bk w1 (w.heap.size + 1) 31 #[.int .i64 t, .int .i64 p.x, .int .i64 p.y, .int .i64 f.x, .int .i64 f.y, .int .i64 d, .int .i64 g, .bool false, .bool true] := Bk.later (by (repeat (first | (with_reducible assumption) | (with_reducible exact Bk.new _ _ _ (by simp; done)) | (with_reducible refine Bk.alloc ?_ _) | (with_reducible refine Bk.drew ?_) | (with_reducible refine Bk.drewN ?_ _) | (with_reducible apply Bk.set') | (with_reducible refine Bk.far ?_ (by first | omega | (simp; done) | (simp; omega)) _) | (with_reducible refine Bk.later ?_ (by assumption)) | (with_reducible refine Bk.grown ?_ (by assumption) (by first | omega | (simp; done) | (simp; omega))) | (exact SetTo.mk (by with_reducible rfl)) | (exact SetTo.mk (by simp))))) hb1
    have X1 : Bk w1 (w.heap.size + 1 + 1) 33 #[.int .i64 x.s, .int .i64 x.p, .bool x.z] := Bk.later (by (repeat (first | (with_reducible assumption) | (with_reducible exact Bk.new _ _ _ (by simp; done)) | (with_reducible refine Bk.alloc ?_ _) | (with_reducible refine Bk.drew ?_) | (with_reducible refine Bk.drewN ?_ _) | (with_reducible apply Bk.set') | (with_reducible refine Bk.far ?_ (by first | omega | (simp; done) | (simp; omega)) _) | (with_reducible refine Bk.later ?_ (by assumption)) | (with_reducible refine Bk.grown ?_ (by assumption) (by first | omega | (simp; done) | (simp; omega))) | (exact SetTo.mk (by with_reducible rfl)) | (exact SetTo.mk (by simp))))) hb1
    have R1 : Bk w1 (w.heap.size + 1 + 1 + 1) 31 #[.int .i64 0, .int .i64 0, .int .i64 0, .int .i64 0, .int .i64 0, .int .i64 0, .int .i64 0, .bool false, .bool false] := Bk.later (by (repeat (first | (with_reducible assumption) | (with_reducible exact Bk.new _ _ _ (by simp; done)) | (with_reducible refine Bk.alloc ?_ _) | (with_reducible refine Bk.drew ?_) | (with_reducible refine Bk.drewN ?_ _) | (with_reducible apply Bk.set') | (with_reducible refine Bk.far ?_ (by first | omega | (simp; done) | (simp; omega)) _) | (with_reducible refine Bk.later ?_ (by assumption)) | (with_reducible refine Bk.grown ?_ (by assumption) (by first | omega | (simp; done) | (simp; omega))) | (exact SetTo.mk (by with_reducible rfl)) | (exact SetTo.mk (by simp))))) hb1
    have d1 : Below w.heap.size w w1 := below_after (by (repeat (first | (with_reducible assumption) | (with_reducible exact Below.refl _ _) | (with_reducible refine below_alloc ?_ _) | (with_reducible refine below_setCell ?_ ?_ _; (simp <;> omega)) | (with_reducible refine below_drew ?_) | (with_reducible refine below_drewN ?_ _) | (with_reducible refine below_after ?_ (by assumption))))) hb1
    have zz1 := R1.lt
    clear hb1
    obtain ⟨⟨l0, l1, l2, l3, l4, l5, l6, l7, l8, l9, l10⟩, lf⟩ := L1.c11; obtain ⟨⟨s0, s1, s2, s3, s4, s5, s6, s7, s8⟩, sf⟩ := S1.c9; obtain ⟨⟨x0, x1, x2⟩, xf⟩ := X1.c3; obtain ⟨⟨r0, r1, r2, r3, r4, r5, r6, r7, r8⟩, rf⟩ := R1.c9
    go_wp2_with fail
    refine (specInputValid_any x _).mono ?_
    rw [h2]
    rintro e w2 ⟨rfl, hb2⟩
    have L2 := L1.later hb2
    have S2 := S1.later hb2
    have X2 := X1.later hb2
    have R2 := R1.later hb2
    have d2 := below_after d1 hb2
    have zz2 := R2.lt
    clear hb2 L1 l0 l1 l2 l3 l4 l5 l6 l7 l8 l9 l10 lf S1 s0 s1 s2 s3 s4 s5 s6 s7 s8 sf X1 x0 x1 x2 xf R1 r0 r1 r2 r3 r4 r5 r6 r7 r8 rf d1 zz1
    obtain ⟨⟨l0, l1, l2, l3, l4, l5, l6, l7, l8, l9, l10⟩, lf⟩ := L2.c11; obtain ⟨⟨s0, s1, s2, s3, s4, s5, s6, s7, s8⟩, sf⟩ := S2.c9; obtain ⟨⟨x0, x1, x2⟩, xf⟩ := X2.c3; obtain ⟨⟨r0, r1, r2, r3, r4, r5, r6, r7, r8⟩, rf⟩ := R2.c9
    go_wp2_with fail
    refine (l13Step_any l ⟨t, p, f, d, g, false, true⟩ x A A' c c' _ (h.below d2) (hg.below d2) hn (walls_bd (levOk_walls HLO.out)) HSO.out HGL.out HT0.out HT2.out HX.out).mono ?_
    rw [HSV.out]
    rintro e w3 ⟨rfl, hb3⟩
    have L3 := L2.later hb3
    have S3 := S2.later hb3
    have X3 := X2.later hb3
    have R3 := R2.later hb3
    have d3 := below_after d2 hb3
    have zz3 := R3.lt
    clear hb3 L2 l0 l1 l2 l3 l4 l5 l6 l7 l8 l9 l10 lf S2 s0 s1 s2 s3 s4 s5 s6 s7 s8 sf X2 x0 x1 x2 xf R2 r0 r1 r2 r3 r4 r5 r6 r7 r8 rf d2 zz2
    obtain ⟨⟨l0, l1, l2, l3, l4, l5, l6, l7, l8, l9, l10⟩, lf⟩ := L3.c11; obtain ⟨⟨s0, s1, s2, s3, s4, s5, s6, s7, s8⟩, sf⟩ := S3.c9; obtain ⟨⟨x0, x1, x2⟩, xf⟩ := X3.c3; obtain ⟨⟨r0, r1, r2, r3, r4, r5, r6, r7, r8⟩, rf⟩ := R3.c9
    go_wp2
    refine bodyPost_ret (v := .tuple #[.agg #[.int .i64 sv.t, .int .i64 sv.p.x, .int .i64 sv.p.y, .int .i64 sv.f.x, .int .i64 sv.f.y, .int .i64 sv.d, .int .i64 sv.g, .bool sv.dn, .bool sv.ov], .bool true]) (by simp [results, Try.results27, go_sem, *]) rfl ⟨rfl, by (repeat (first | (with_reducible assumption) | (with_reducible exact Below.refl _ _) | (with_reducible refine below_alloc ?_ _) | (with_reducible refine below_setCell ?_ ?_ _; (simp <;> omega)) | (with_reducible refine below_drew ?_) | (with_reducible refine below_drewN ?_ _) | (with_reducible refine below_after ?_ (by assumption))))⟩
end Go.Proofs.Ytmfhfebakdkkdaa
