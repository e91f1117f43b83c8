/- EngineValid of both sides. Printed by gen/engv.py. (Round B) -/
import Derived.Test.YtmfhfebakdkkdaaImpR
import Derived.Test.YtmfhfebakdkkdaaSpecM
namespace Go.Proofs.Ytmfhfebakdkkdaa
open Go.ChangeShapes Go.WideShapes Go.ChangeAt Go.RowKit
theorem levOk_walls {l : Lev} (h : levOk l = true) : boxesB l.walls = true := List.all_eq_true.2 (levOk_iff.1 h).2.2.2.2.1
set_option maxRecDepth 100000 in
set_option maxHeartbeats 4000000 in
theorem implEngineValid_any (l : Lev) (s : St) (A A' : Option Addr) (c c' : Nat) (w : World) (h : Sl w 4 encBx A l.walls.length l.walls) (hg : Sl w 4 encBx A' l.gates.length l.gates) (e : A = none → c = 0) (e' : A' = none → c' = 0) (hn : (l.walls.length : Nat) ≤ 9223372036854775807) (hn' : (l.gates.length : Nat) ≤ 9223372036854775807) :
    Calls Try.prog 44 #[.agg #[.int .i64 l.id, .int .i64 l.ticks, .int .i64 l.start.x, .int .i64 l.start.y, .slice A l.walls.length c, .slice A' l.gates.length c', .int .i64 l.fin.lo.x, .int .i64 l.fin.lo.y, .int .i64 l.fin.hi.x, .int .i64 l.fin.hi.y, .int .i64 l.bans], .agg #[.int .i64 s.t, .int .i64 s.p.x, .int .i64 s.p.y, .int .i64 s.f.x, .int .i64 s.f.y, .int .i64 s.d, .int .i64 s.g, .bool s.dn, .bool s.ov]] w fun e w' => e = .returned (.bool (validB l s)) ∧ Below w.heap.size w w' := by
  have HP : Hid (validB l s = (levOk l && (ownB s && (decide (s.t ≤ l.ticks) && (decide (s.g ≤ (l.gates.length : Int)) && (freeB l s.p && (!s.dn || s.g == (l.gates.length : Int)))))))) := Lib.hid rfl
  cases h1 : ownB s
  · have HN : Hid (false = validB l s) := Lib.hid (by rw [HP.out, h1]; simp)
    go_enter Try.func44, Try.ntmps44
    go_wp2_with fail
    refine (implStateOk_any s _).mono ?_
    rw [h1]
    rintro e w1 ⟨rfl, hb1⟩
    go_wp2
    go_ret
    exact ⟨ret_bool HN.out, by (repeat (first | (with_reducible assumption) | (with_reducible exact Below.refl _ _) | (with_reducible refine below_alloc ?_ _) | (with_reducible refine below_setCell ?_ ?_ _; (simp <;> omega)) | (with_reducible refine below_drew ?_) | (with_reducible refine below_drewN ?_ _) | (with_reducible refine below_after ?_ (by assumption))))⟩
  cases h2 : levOk l
  · have HN : Hid (false = validB l s) := Lib.hid (by rw [HP.out, h2]; simp)
    go_enter Try.func44, Try.ntmps44
    go_wp2_with fail
    refine (implStateOk_any s _).mono ?_
    rw [h1]
    rintro e w1 ⟨rfl, hb1⟩
    have L1 : Bk w1 w.heap.size 29 #[.int .i64 l.id, .int .i64 l.ticks, .int .i64 l.start.x, .int .i64 l.start.y, .slice A l.walls.length c, .slice A' l.gates.length c', .int .i64 l.fin.lo.x, .int .i64 l.fin.lo.y, .int .i64 l.fin.hi.x, .int .i64 l.fin.hi.y, .int .i64 l.bans] := Bk.later (by (repeat (first | (with_reducible assumption) | (with_reducible exact Bk.new _ _ _ (by simp; done)) | (with_reducible refine Bk.alloc ?_ _) | (with_reducible refine Bk.drew ?_) | (with_reducible refine Bk.drewN ?_ _) | (with_reducible apply Bk.set') | (with_reducible refine Bk.far ?_ (by first | omega | (simp; done) | (simp; omega)) _) | (with_reducible refine Bk.later ?_ (by assumption)) | (with_reducible refine Bk.grown ?_ (by assumption) (by first | omega | (simp; done) | (simp; omega))) | (exact SetTo.mk (by with_reducible rfl)) | (exact SetTo.mk (by simp))))) hb1
    have S1 : Bk w1 (w.heap.size + 1) 31 #[.int .i64 s.t, .int .i64 s.p.x, .int .i64 s.p.y, .int .i64 s.f.x, .int .i64 s.f.y, .int .i64 s.d, .int .i64 s.g, .bool s.dn, .bool s.ov] := Bk.later (by (repeat (first | (with_reducible assumption) | (with_reducible exact Bk.new _ _ _ (by simp; done)) | (with_reducible refine Bk.alloc ?_ _) | (with_reducible refine Bk.drew ?_) | (with_reducible refine Bk.drewN ?_ _) | (with_reducible apply Bk.set') | (with_reducible refine Bk.far ?_ (by first | omega | (simp; done) | (simp; omega)) _) | (with_reducible refine Bk.later ?_ (by assumption)) | (with_reducible refine Bk.grown ?_ (by assumption) (by first | omega | (simp; done) | (simp; omega))) | (exact SetTo.mk (by with_reducible rfl)) | (exact SetTo.mk (by simp))))) hb1
    have d1 : Below w.heap.size w w1 := below_after (by (repeat (first | (with_reducible assumption) | (with_reducible exact Below.refl _ _) | (with_reducible refine below_alloc ?_ _) | (with_reducible refine below_setCell ?_ ?_ _; (simp <;> omega)) | (with_reducible refine below_drew ?_) | (with_reducible refine below_drewN ?_ _) | (with_reducible refine below_after ?_ (by assumption))))) hb1
    clear hb1
    obtain ⟨⟨l0, l1, l2, l3, l4, l5, l6, l7, l8, l9, l10⟩, lf⟩ := L1.c11; obtain ⟨⟨s0, s1, s2, s3, s4, s5, s6, s7, s8⟩, sf⟩ := S1.c9
    go_wp2_with fail
    refine (implLevelValid_any l A A' c c' _ (h.below d1) (hg.below d1) e e' hn hn').mono ?_
    rw [h2]
    rintro e w2 ⟨rfl, hb2⟩
    go_wp2
    go_ret
    exact ⟨ret_bool HN.out, by (repeat (first | (with_reducible assumption) | (with_reducible exact Below.refl _ _) | (with_reducible refine below_alloc ?_ _) | (with_reducible refine below_setCell ?_ ?_ _; (simp <;> omega)) | (with_reducible refine below_drew ?_) | (with_reducible refine below_drewN ?_ _) | (with_reducible refine below_after ?_ (by assumption))))⟩
  have HSP := Lib.hid (ownB_iff.1 h1).2.1
  have HWB : Hid (boxesB l.walls = true) := Lib.hid (levOk_walls h2)
  by_cases h3 : s.t ≤ l.ticks
  rotate_left
  · have HN : Hid (false = validB l s) := Lib.hid (by rw [HP.out, decide_eq_false h3]; simp)
    go_enter Try.func44, Try.ntmps44
    go_wp2_with fail
    refine (implStateOk_any s _).mono ?_
    rw [h1]
    rintro e w1 ⟨rfl, hb1⟩
    have L1 : Bk w1 w.heap.size 29 #[.int .i64 l.id, .int .i64 l.ticks, .int .i64 l.start.x, .int .i64 l.start.y, .slice A l.walls.length c, .slice A' l.gates.length c', .int .i64 l.fin.lo.x, .int .i64 l.fin.lo.y, .int .i64 l.fin.hi.x, .int .i64 l.fin.hi.y, .int .i64 l.bans] := Bk.later (by (repeat (first | (with_reducible assumption) | (with_reducible exact Bk.new _ _ _ (by simp; done)) | (with_reducible refine Bk.alloc ?_ _) | (with_reducible refine Bk.drew ?_) | (with_reducible refine Bk.drewN ?_ _) | (with_reducible apply Bk.set') | (with_reducible refine Bk.far ?_ (by first | omega | (simp; done) | (simp; omega)) _) | (with_reducible refine Bk.later ?_ (by assumption)) | (with_reducible refine Bk.grown ?_ (by assumption) (by first | omega | (simp; done) | (simp; omega))) | (exact SetTo.mk (by with_reducible rfl)) | (exact SetTo.mk (by simp))))) hb1
    have S1 : Bk w1 (w.heap.size + 1) 31 #[.int .i64 s.t, .int .i64 s.p.x, .int .i64 s.p.y, .int .i64 s.f.x, .int .i64 s.f.y, .int .i64 s.d, .int .i64 s.g, .bool s.dn, .bool s.ov] := Bk.later (by (repeat (first | (with_reducible assumption) | (with_reducible exact Bk.new _ _ _ (by simp; done)) | (with_reducible refine Bk.alloc ?_ _) | (with_reducible refine Bk.drew ?_) | (with_reducible refine Bk.drewN ?_ _) | (with_reducible apply Bk.set') | (with_reducible refine Bk.far ?_ (by first | omega | (simp; done) | (simp; omega)) _) | (with_reducible refine Bk.later ?_ (by assumption)) | (with_reducible refine Bk.grown ?_ (by assumption) (by first | omega | (simp; done) | (simp; omega))) | (exact SetTo.mk (by with_reducible rfl)) | (exact SetTo.mk (by simp))))) hb1
    have d1 : Below w.heap.size w w1 := below_after (by (repeat (first | (with_reducible assumption) | (with_reducible exact Below.refl _ _) | (with_reducible refine below_alloc ?_ _) | (with_reducible refine below_setCell ?_ ?_ _; (simp <;> omega)) | (with_reducible refine below_drew ?_) | (with_reducible refine below_drewN ?_ _) | (with_reducible refine below_after ?_ (by assumption))))) hb1
    clear hb1
    obtain ⟨⟨l0, l1, l2, l3, l4, l5, l6, l7, l8, l9, l10⟩, lf⟩ := L1.c11; obtain ⟨⟨s0, s1, s2, s3, s4, s5, s6, s7, s8⟩, sf⟩ := S1.c9
    go_wp2_with fail
    refine (implLevelValid_any l A A' c c' _ (h.below d1) (hg.below d1) e e' hn hn').mono ?_
    rw [h2]
    rintro e w2 ⟨rfl, hb2⟩
    have L2 := L1.later hb2
    have S2 := S1.later hb2
    have d2 := below_after d1 hb2
    clear hb2 l0 l1 l2 l3 l4 l5 l6 l7 l8 l9 l10 lf s0 s1 s2 s3 s4 s5 s6 s7 s8 sf L1 S1 d1
    obtain ⟨⟨l0, l1, l2, l3, l4, l5, l6, l7, l8, l9, l10⟩, lf⟩ := L2.c11; obtain ⟨⟨s0, s1, s2, s3, s4, s5, s6, s7, s8⟩, sf⟩ := S2.c9
    go_wp2
    go_ret
    exact ⟨ret_bool HN.out, by (repeat (first | (with_reducible assumption) | (with_reducible exact Below.refl _ _) | (with_reducible refine below_alloc ?_ _) | (with_reducible refine below_setCell ?_ ?_ _; (simp <;> omega)) | (with_reducible refine below_drew ?_) | (with_reducible refine below_drewN ?_ _) | (with_reducible refine below_after ?_ (by assumption))))⟩
  by_cases h4 : s.g ≤ (l.gates.length : Int)
  rotate_left
  · have HN : Hid (false = validB l s) := Lib.hid (by rw [HP.out, decide_eq_false h4]; simp)
    go_enter Try.func44, Try.ntmps44
    go_wp2_with fail
    refine (implStateOk_any s _).mono ?_
    rw [h1]
    rintro e w1 ⟨rfl, hb1⟩
    have L1 : Bk w1 w.heap.size 29 #[.int .i64 l.id, .int .i64 l.ticks, .int .i64 l.start.x, .int .i64 l.start.y, .slice A l.walls.length c, .slice A' l.gates.length c', .int .i64 l.fin.lo.x, .int .i64 l.fin.lo.y, .int .i64 l.fin.hi.x, .int .i64 l.fin.hi.y, .int .i64 l.bans] := Bk.later (by (repeat (first | (with_reducible assumption) | (with_reducible exact Bk.new _ _ _ (by simp; done)) | (with_reducible refine Bk.alloc ?_ _) | (with_reducible refine Bk.drew ?_) | (with_reducible refine Bk.drewN ?_ _) | (with_reducible apply Bk.set') | (with_reducible refine Bk.far ?_ (by first | omega | (simp; done) | (simp; omega)) _) | (with_reducible refine Bk.later ?_ (by assumption)) | (with_reducible refine Bk.grown ?_ (by assumption) (by first | omega | (simp; done) | (simp; omega))) | (exact SetTo.mk (by with_reducible rfl)) | (exact SetTo.mk (by simp))))) hb1
    have S1 : Bk w1 (w.heap.size + 1) 31 #[.int .i64 s.t, .int .i64 s.p.x, .int .i64 s.p.y, .int .i64 s.f.x, .int .i64 s.f.y, .int .i64 s.d, .int .i64 s.g, .bool s.dn, .bool s.ov] := Bk.later (by (repeat (first | (with_reducible assumption) | (with_reducible exact Bk.new _ _ _ (by simp; done)) | (with_reducible refine Bk.alloc ?_ _) | (with_reducible refine Bk.drew ?_) | (with_reducible refine Bk.drewN ?_ _) | (with_reducible apply Bk.set') | (with_reducible refine Bk.far ?_ (by first | omega | (simp; done) | (simp; omega)) _) | (with_reducible refine Bk.later ?_ (by assumption)) | (with_reducible refine Bk.grown ?_ (by assumption) (by first | omega | (simp; done) | (simp; omega))) | (exact SetTo.mk (by with_reducible rfl)) | (exact SetTo.mk (by simp))))) hb1
    have d1 : Below w.heap.size w w1 := below_after (by (repeat (first | (with_reducible assumption) | (with_reducible exact Below.refl _ _) | (with_reducible refine below_alloc ?_ _) | (with_reducible refine below_setCell ?_ ?_ _; (simp <;> omega)) | (with_reducible refine below_drew ?_) | (with_reducible refine below_drewN ?_ _) | (with_reducible refine below_after ?_ (by assumption))))) hb1
    clear hb1
    obtain ⟨⟨l0, l1, l2, l3, l4, l5, l6, l7, l8, l9, l10⟩, lf⟩ := L1.c11; obtain ⟨⟨s0, s1, s2, s3, s4, s5, s6, s7, s8⟩, sf⟩ := S1.c9
    go_wp2_with fail
    refine (implLevelValid_any l A A' c c' _ (h.below d1) (hg.below d1) e e' hn hn').mono ?_
    rw [h2]
    rintro e w2 ⟨rfl, hb2⟩
    have L2 := L1.later hb2
    have S2 := S1.later hb2
    have d2 := below_after d1 hb2
    clear hb2 l0 l1 l2 l3 l4 l5 l6 l7 l8 l9 l10 lf s0 s1 s2 s3 s4 s5 s6 s7 s8 sf L1 S1 d1
    obtain ⟨⟨l0, l1, l2, l3, l4, l5, l6, l7, l8, l9, l10⟩, lf⟩ := L2.c11; obtain ⟨⟨s0, s1, s2, s3, s4, s5, s6, s7, s8⟩, sf⟩ := S2.c9
    go_wp2
    go_ret
    exact ⟨ret_bool HN.out, by (repeat (first | (with_reducible assumption) | (with_reducible exact Below.refl _ _) | (with_reducible refine below_alloc ?_ _) | (with_reducible refine below_setCell ?_ ?_ _; (simp <;> omega)) | (with_reducible refine below_drew ?_) | (with_reducible refine below_drewN ?_ _) | (with_reducible refine below_after ?_ (by assumption))))⟩
  cases h5 : freeB l s.p
  · have HN : Hid (false = validB l s) := Lib.hid (by rw [HP.out, h5]; simp)
    go_enter Try.func44, Try.ntmps44
    go_wp2_with fail
    refine (implStateOk_any s _).mono ?_
    rw [h1]
    rintro e w1 ⟨rfl, hb1⟩
    have L1 : Bk w1 w.heap.size 29 #[.int .i64 l.id, .int .i64 l.ticks, .int .i64 l.start.x, .int .i64 l.start.y, .slice A l.walls.length c, .slice A' l.gates.length c', .int .i64 l.fin.lo.x, .int .i64 l.fin.lo.y, .int .i64 l.fin.hi.x, .int .i64 l.fin.hi.y, .int .i64 l.bans] := Bk.later (by (repeat (first | (with_reducible assumption) | (with_reducible exact Bk.new _ _ _ (by simp; done)) | (with_reducible refine Bk.alloc ?_ _) | (with_reducible refine Bk.drew ?_) | (with_reducible refine Bk.drewN ?_ _) | (with_reducible apply Bk.set') | (with_reducible refine Bk.far ?_ (by first | omega | (simp; done) | (simp; omega)) _) | (with_reducible refine Bk.later ?_ (by assumption)) | (with_reducible refine Bk.grown ?_ (by assumption) (by first | omega | (simp; done) | (simp; omega))) | (exact SetTo.mk (by with_reducible rfl)) | (exact SetTo.mk (by simp))))) hb1
    have S1 : Bk w1 (w.heap.size + 1) 31 #[.int .i64 s.t, .int .i64 s.p.x, .int .i64 s.p.y, .int .i64 s.f.x, .int .i64 s.f.y, .int .i64 s.d, .int .i64 s.g, .bool s.dn, .bool s.ov] := Bk.later (by (repeat (first | (with_reducible assumption) | (with_reducible exact Bk.new _ _ _ (by simp; done)) | (with_reducible refine Bk.alloc ?_ _) | (with_reducible refine Bk.drew ?_) | (with_reducible refine Bk.drewN ?_ _) | (with_reducible apply Bk.set') | (with_reducible refine Bk.far ?_ (by first | omega | (simp; done) | (simp; omega)) _) | (with_reducible refine Bk.later ?_ (by assumption)) | (with_reducible refine Bk.grown ?_ (by assumption) (by first | omega | (simp; done) | (simp; omega))) | (exact SetTo.mk (by with_reducible rfl)) | (exact SetTo.mk (by simp))))) hb1
    have d1 : Below w.heap.size w w1 := below_after (by (repeat (first | (with_reducible assumption) | (with_reducible exact Below.refl _ _) | (with_reducible refine below_alloc ?_ _) | (with_reducible refine below_setCell ?_ ?_ _; (simp <;> omega)) | (with_reducible refine below_drew ?_) | (with_reducible refine below_drewN ?_ _) | (with_reducible refine below_after ?_ (by assumption))))) hb1
    clear hb1
    obtain ⟨⟨l0, l1, l2, l3, l4, l5, l6, l7, l8, l9, l10⟩, lf⟩ := L1.c11; obtain ⟨⟨s0, s1, s2, s3, s4, s5, s6, s7, s8⟩, sf⟩ := S1.c9
    go_wp2_with fail
    refine (implLevelValid_any l A A' c c' _ (h.below d1) (hg.below d1) e e' hn hn').mono ?_
    rw [h2]
    rintro e w2 ⟨rfl, hb2⟩
    have L2 := L1.later hb2
    have S2 := S1.later hb2
    have d2 := below_after d1 hb2
    clear hb2 l0 l1 l2 l3 l4 l5 l6 l7 l8 l9 l10 lf s0 s1 s2 s3 s4 s5 s6 s7 s8 sf L1 S1 d1
    obtain ⟨⟨l0, l1, l2, l3, l4, l5, l6, l7, l8, l9, l10⟩, lf⟩ := L2.c11; obtain ⟨⟨s0, s1, s2, s3, s4, s5, s6, s7, s8⟩, sf⟩ := S2.c9
    go_wp2_with fail
    refine (implFree_any l s.p A A' c c' _ (h.below d2) hn HWB.out (vOk_bdV HSP.out)).mono ?_
    rw [h5]
    rintro e w3 ⟨rfl, hb3⟩
    go_wp2
    go_ret
    exact ⟨ret_bool HN.out, by (repeat (first | (with_reducible assumption) | (with_reducible exact Below.refl _ _) | (with_reducible refine below_alloc ?_ _) | (with_reducible refine below_setCell ?_ ?_ _; (simp <;> omega)) | (with_reducible refine below_drew ?_) | (with_reducible refine below_drewN ?_ _) | (with_reducible refine below_after ?_ (by assumption))))⟩
  have HQ : Hid (validB l s = (!s.dn || s.g == (l.gates.length : Int))) := Lib.hid (by rw [HP.out, h1, h2, h5, decide_eq_true h3, decide_eq_true h4]; simp)
  obtain ⟨t, p, f, d, g, dn, ov⟩ := s
  simp only at *
  cases dn
  · have HN : Hid (true = validB l ⟨t, p, f, d, g, false, ov⟩) := Lib.hid (by rw [HQ.out]; rfl)
    go_enter Try.func44, Try.ntmps44
    go_wp2_with fail
    refine (implStateOk_any ⟨t, p, f, d, g, false, ov⟩ _).mono ?_
    rw [h1]
    rintro e w1 ⟨rfl, hb1⟩
    have L1 : Bk w1 w.heap.size 29 #[.int .i64 l.id, .int .i64 l.ticks, .int .i64 l.start.x, .int .i64 l.start.y, .slice A l.walls.length c, .slice A' l.gates.length c', .int .i64 l.fin.lo.x, .int .i64 l.fin.lo.y, .int .i64 l.fin.hi.x, .int .i64 l.fin.hi.y, .int .i64 l.bans] := Bk.later (by (repeat (first | (with_reducible assumption) | (with_reducible exact Bk.new _ _ _ (by simp; done)) | (with_reducible refine Bk.alloc ?_ _) | (with_reducible refine Bk.drew ?_) | (with_reducible refine Bk.drewN ?_ _) | (with_reducible apply Bk.set') | (with_reducible refine Bk.far ?_ (by first | omega | (simp; done) | (simp; omega)) _) | (with_reducible refine Bk.later ?_ (by assumption)) | (with_reducible refine Bk.grown ?_ (by assumption) (by first | omega | (simp; done) | (simp; omega))) | (exact SetTo.mk (by with_reducible rfl)) | (exact SetTo.mk (by simp))))) hb1
    have S1 : Bk w1 (w.heap.size + 1) 31 #[.int .i64 t, .int .i64 p.x, .int .i64 p.y, .int .i64 f.x, .int .i64 f.y, .int .i64 d, .int .i64 g, .bool false, .bool ov] := Bk.later (by (repeat (first | (with_reducible assumption) | (with_reducible exact Bk.new _ _ _ (by simp; done)) | (with_reducible refine Bk.alloc ?_ _) | (with_reducible refine Bk.drew ?_) | (with_reducible refine Bk.drewN ?_ _) | (with_reducible apply Bk.set') | (with_reducible refine Bk.far ?_ (by first | omega | (simp; done) | (simp; omega)) _) | (with_reducible refine Bk.later ?_ (by assumption)) | (with_reducible refine Bk.grown ?_ (by assumption) (by first | omega | (simp; done) | (simp; omega))) | (exact SetTo.mk (by with_reducible rfl)) | (exact SetTo.mk (by simp))))) hb1
    have d1 : Below w.heap.size w w1 := below_after (by (repeat (first | (with_reducible assumption) | (with_reducible exact Below.refl _ _) | (with_reducible refine below_alloc ?_ _) | (with_reducible refine below_setCell ?_ ?_ _; (simp <;> omega)) | (with_reducible refine below_drew ?_) | (with_reducible refine below_drewN ?_ _) | (with_reducible refine below_after ?_ (by assumption))))) hb1
    clear hb1
    obtain ⟨⟨l0, l1, l2, l3, l4, l5, l6, l7, l8, l9, l10⟩, lf⟩ := L1.c11; obtain ⟨⟨s0, s1, s2, s3, s4, s5, s6, s7, s8⟩, sf⟩ := S1.c9
    go_wp2_with fail
    refine (implLevelValid_any l A A' c c' _ (h.below d1) (hg.below d1) e e' hn hn').mono ?_
    rw [h2]
    rintro e w2 ⟨rfl, hb2⟩
    have L2 := L1.later hb2
    have S2 := S1.later hb2
    have d2 := below_after d1 hb2
    clear hb2 l0 l1 l2 l3 l4 l5 l6 l7 l8 l9 l10 lf s0 s1 s2 s3 s4 s5 s6 s7 s8 sf L1 S1 d1
    obtain ⟨⟨l0, l1, l2, l3, l4, l5, l6, l7, l8, l9, l10⟩, lf⟩ := L2.c11; obtain ⟨⟨s0, s1, s2, s3, s4, s5, s6, s7, s8⟩, sf⟩ := S2.c9
    go_wp2_with fail
    refine (implFree_any l p A A' c c' _ (h.below d2) hn HWB.out (vOk_bdV HSP.out)).mono ?_
    rw [h5]
    rintro e w3 ⟨rfl, hb3⟩
    have L3 := L2.later hb3
    have S3 := S2.later hb3
    have d3 := below_after d2 hb3
    clear hb3 l0 l1 l2 l3 l4 l5 l6 l7 l8 l9 l10 lf s0 s1 s2 s3 s4 s5 s6 s7 s8 sf L2 S2 d2
    obtain ⟨⟨l0, l1, l2, l3, l4, l5, l6, l7, l8, l9, l10⟩, lf⟩ := L3.c11; obtain ⟨⟨s0, s1, s2, s3, s4, s5, s6, s7, s8⟩, sf⟩ := S3.c9
    go_wp2
    go_ret
    exact ⟨ret_bool HN.out, by (repeat (first | (with_reducible assumption) | (with_reducible exact Below.refl _ _) | (with_reducible refine below_alloc ?_ _) | (with_reducible refine below_setCell ?_ ?_ _; (simp <;> omega)) | (with_reducible refine below_drew ?_) | (with_reducible refine below_drewN ?_ _) | (with_reducible refine below_after ?_ (by assumption))))⟩
  by_cases h6 : g = (l.gates.length : Int)
  · have HN : Hid (true = validB l ⟨t, p, f, d, g, true, ov⟩) := Lib.hid (by rw [HQ.out, h6]; simp)
    subst h6
    go_enter Try.func44, Try.ntmps44
    go_wp2_with fail
    refine (implStateOk_any ⟨t, p, f, d, (l.gates.length : Int), true, ov⟩ _).mono ?_
    rw [h1]
    rintro e w1 ⟨rfl, hb1⟩
    have L1 : Bk w1 w.heap.size 29 #[.int .i64 l.id, .int .i64 l.ticks, .int .i64 l.start.x, .int .i64 l.start.y, .slice A l.walls.length c, .slice A' l.gates.length c', .int .i64 l.fin.lo.x, .int .i64 l.fin.lo.y, .int .i64 l.fin.hi.x, .int .i64 l.fin.hi.y, .int .i64 l.bans] := Bk.later (by (repeat (first | (with_reducible assumption) | (with_reducible exact Bk.new _ _ _ (by simp; done)) | (with_reducible refine Bk.alloc ?_ _) | (with_reducible refine Bk.drew ?_) | (with_reducible refine Bk.drewN ?_ _) | (with_reducible apply Bk.set') | (with_reducible refine Bk.far ?_ (by first | omega | (simp; done) | (simp; omega)) _) | (with_reducible refine Bk.later ?_ (by assumption)) | (with_reducible refine Bk.grown ?_ (by assumption) (by first | omega | (simp; done) | (simp; omega))) | (exact SetTo.mk (by with_reducible rfl)) | (exact SetTo.mk (by simp))))) hb1
    have S1 : Bk w1 (w.heap.size + 1) 31 #[.int .i64 t, .int .i64 p.x, .int .i64 p.y, .int .i64 f.x, .int .i64 f.y, .int .i64 d, .int .i64 (l.gates.length : Int), .bool true, .bool ov] := Bk.later (by (repeat (first | (with_reducible assumption) | (with_reducible exact Bk.new _ _ _ (by simp; done)) | (with_reducible refine Bk.alloc ?_ _) | (with_reducible refine Bk.drew ?_) | (with_reducible refine Bk.drewN ?_ _) | (with_reducible apply Bk.set') | (with_reducible refine Bk.far ?_ (by first | omega | (simp; done) | (simp; omega)) _) | (with_reducible refine Bk.later ?_ (by assumption)) | (with_reducible refine Bk.grown ?_ (by assumption) (by first | omega | (simp; done) | (simp; omega))) | (exact SetTo.mk (by with_reducible rfl)) | (exact SetTo.mk (by simp))))) hb1
    have d1 : Below w.heap.size w w1 := below_after (by (repeat (first | (with_reducible assumption) | (with_reducible exact Below.refl _ _) | (with_reducible refine below_alloc ?_ _) | (with_reducible refine below_setCell ?_ ?_ _; (simp <;> omega)) | (with_reducible refine below_drew ?_) | (with_reducible refine below_drewN ?_ _) | (with_reducible refine below_after ?_ (by assumption))))) hb1
    clear hb1
    obtain ⟨⟨l0, l1, l2, l3, l4, l5, l6, l7, l8, l9, l10⟩, lf⟩ := L1.c11; obtain ⟨⟨s0, s1, s2, s3, s4, s5, s6, s7, s8⟩, sf⟩ := S1.c9
    go_wp2_with fail
    refine (implLevelValid_any l A A' c c' _ (h.below d1) (hg.below d1) e e' hn hn').mono ?_
    rw [h2]
    rintro e w2 ⟨rfl, hb2⟩
    have L2 := L1.later hb2
    have S2 := S1.later hb2
    have d2 := below_after d1 hb2
    clear hb2 l0 l1 l2 l3 l4 l5 l6 l7 l8 l9 l10 lf s0 s1 s2 s3 s4 s5 s6 s7 s8 sf L1 S1 d1
    obtain ⟨⟨l0, l1, l2, l3, l4, l5, l6, l7, l8, l9, l10⟩, lf⟩ := L2.c11; obtain ⟨⟨s0, s1, s2, s3, s4, s5, s6, s7, s8⟩, sf⟩ := S2.c9
    go_wp2_with fail
    refine (implFree_any l p A A' c c' _ (h.below d2) hn HWB.out (vOk_bdV HSP.out)).mono ?_
    rw [h5]
    rintro e w3 ⟨rfl, hb3⟩
    have L3 := L2.later hb3
    have S3 := S2.later hb3
    have d3 := below_after d2 hb3
    clear hb3 l0 l1 l2 l3 l4 l5 l6 l7 l8 l9 l10 lf s0 s1 s2 s3 s4 s5 s6 s7 s8 sf L2 S2 d2
    obtain ⟨⟨l0, l1, l2, l3, l4, l5, l6, l7, l8, l9, l10⟩, lf⟩ := L3.c11; obtain ⟨⟨s0, s1, s2, s3, s4, s5, s6, s7, s8⟩, sf⟩ := S3.c9
    go_wp2
    go_ret
    exact ⟨ret_bool HN.out, by (repeat (first | (with_reducible assumption) | (with_reducible exact Below.refl _ _) | (with_reducible refine below_alloc ?_ _) | (with_reducible refine below_setCell ?_ ?_ _; (simp <;> omega)) | (with_reducible refine below_drew ?_) | (with_reducible refine below_drewN ?_ _) | (with_reducible refine below_after ?_ (by assumption))))⟩
  · have HN : Hid (false = validB l ⟨t, p, f, d, g, true, ov⟩) := Lib.hid (by rw [HQ.out]; simp [h6])
    have h6b : (g == (l.gates.length : Int)) = false := by simpa using h6
    go_enter Try.func44, Try.ntmps44
    go_wp2_with fail
    refine (implStateOk_any ⟨t, p, f, d, g, true, ov⟩ _).mono ?_
    rw [h1]
    rintro e w1 ⟨rfl, hb1⟩
    have L1 : Bk w1 w.heap.size 29 #[.int .i64 l.id, .int .i64 l.ticks, .int .i64 l.start.x, .int .i64 l.start.y, .slice A l.walls.length c, .slice A' l.gates.length c', .int .i64 l.fin.lo.x, .int .i64 l.fin.lo.y, .int .i64 l.fin.hi.x, .int .i64 l.fin.hi.y, .int .i64 l.bans] := Bk.later (by (repeat (first | (with_reducible assumption) | (with_reducible exact Bk.new _ _ _ (by simp; done)) | (with_reducible refine Bk.alloc ?_ _) | (with_reducible refine Bk.drew ?_) | (with_reducible refine Bk.drewN ?_ _) | (with_reducible apply Bk.set') | (with_reducible refine Bk.far ?_ (by first | omega | (simp; done) | (simp; omega)) _) | (with_reducible refine Bk.later ?_ (by assumption)) | (with_reducible refine Bk.grown ?_ (by assumption) (by first | omega | (simp; done) | (simp; omega))) | (exact SetTo.mk (by with_reducible rfl)) | (exact SetTo.mk (by simp))))) hb1
    have S1 : Bk w1 (w.heap.size + 1) 31 #[.int .i64 t, .int .i64 p.x, .int .i64 p.y, .int .i64 f.x, .int .i64 f.y, .int .i64 d, .int .i64 g, .bool true, .bool ov] := Bk.later (by (repeat (first | (with_reducible assumption) | (with_reducible exact Bk.new _ _ _ (by simp; done)) | (with_reducible refine Bk.alloc ?_ _) | (with_reducible refine Bk.drew ?_) | (with_reducible refine Bk.drewN ?_ _) | (with_reducible apply Bk.set') | (with_reducible refine Bk.far ?_ (by first | omega | (simp; done) | (simp; omega)) _) | (with_reducible refine Bk.later ?_ (by assumption)) | (with_reducible refine Bk.grown ?_ (by assumption) (by first | omega | (simp; done) | (simp; omega))) | (exact SetTo.mk (by with_reducible rfl)) | (exact SetTo.mk (by simp))))) hb1
    have d1 : Below w.heap.size w w1 := below_after (by (repeat (first | (with_reducible assumption) | (with_reducible exact Below.refl _ _) | (with_reducible refine below_alloc ?_ _) | (with_reducible refine below_setCell ?_ ?_ _; (simp <;> omega)) | (with_reducible refine below_drew ?_) | (with_reducible refine below_drewN ?_ _) | (with_reducible refine below_after ?_ (by assumption))))) hb1
    clear hb1
    obtain ⟨⟨l0, l1, l2, l3, l4, l5, l6, l7, l8, l9, l10⟩, lf⟩ := L1.c11; obtain ⟨⟨s0, s1, s2, s3, s4, s5, s6, s7, s8⟩, sf⟩ := S1.c9
    go_wp2_with fail
    refine (implLevelValid_any l A A' c c' _ (h.below d1) (hg.below d1) e e' hn hn').mono ?_
    rw [h2]
    rintro e w2 ⟨rfl, hb2⟩
    have L2 := L1.later hb2
    have S2 := S1.later hb2
    have d2 := below_after d1 hb2
    clear hb2 l0 l1 l2 l3 l4 l5 l6 l7 l8 l9 l10 lf s0 s1 s2 s3 s4 s5 s6 s7 s8 sf L1 S1 d1
    obtain ⟨⟨l0, l1, l2, l3, l4, l5, l6, l7, l8, l9, l10⟩, lf⟩ := L2.c11; obtain ⟨⟨s0, s1, s2, s3, s4, s5, s6, s7, s8⟩, sf⟩ := S2.c9
    go_wp2_with fail
    refine (implFree_any l p A A' c c' _ (h.below d2) hn HWB.out (vOk_bdV HSP.out)).mono ?_
    rw [h5]
    rintro e w3 ⟨rfl, hb3⟩
    have L3 := L2.later hb3
    have S3 := S2.later hb3
    have d3 := below_after d2 hb3
    clear hb3 l0 l1 l2 l3 l4 l5 l6 l7 l8 l9 l10 lf s0 s1 s2 s3 s4 s5 s6 s7 s8 sf L2 S2 d2
    obtain ⟨⟨l0, l1, l2, l3, l4, l5, l6, l7, l8, l9, l10⟩, lf⟩ := L3.c11; obtain ⟨⟨s0, s1, s2, s3, s4, s5, s6, s7, s8⟩, sf⟩ := S3.c9
    go_wp2
    go_ret
    exact ⟨ret_bool HN.out, by (repeat (first | (with_reducible assumption) | (with_reducible exact Below.refl _ _) | (with_reducible refine below_alloc ?_ _) | (with_reducible refine below_setCell ?_ ?_ _; (simp <;> omega)) | (with_reducible refine below_drew ?_) | (with_reducible refine below_drewN ?_ _) | (with_reducible refine below_after ?_ (by assumption))))⟩
set_option maxRecDepth 100000 in
set_option maxHeartbeats 4000000 in
theorem specEngineValid_any (l : Lev) (s : St) (A A' : Option Addr) (c c' : Nat) (w : World) (h : Sl w 4 encBx A l.walls.length l.walls) (hg : Sl w 4 encBx A' l.gates.length l.gates) (hn : (l.walls.length : Nat) ≤ 9223372036854775807) (hn' : (l.gates.length : Nat) ≤ 9223372036854775807) :
    Calls Try.prog 71 #[.agg #[.int .i64 l.id, .int .i64 l.ticks, .int .i64 l.start.x, .int .i64 l.start.y, .slice A l.walls.length c, .slice A' l.gates.length c', .int .i64 l.fin.lo.x, .int .i64 l.fin.lo.y, .int .i64 l.fin.hi.x, .int .i64 l.fin.hi.y, .int .i64 l.bans], .agg #[.int .i64 s.t, .int .i64 s.p.x, .int .i64 s.p.y, .int .i64 s.f.x, .int .i64 s.f.y, .int .i64 s.d, .int .i64 s.g, .bool s.dn, .bool s.ov]] w fun e w' => e = .returned (.bool (validB l s)) ∧ Below w.heap.size w w' := by
  have HP : Hid (validB l s = (levOk l && (ownB s && (decide (s.t ≤ l.ticks) && (decide (s.g ≤ (l.gates.length : Int)) && (freeB l s.p && (!s.dn || s.g == (l.gates.length : Int)))))))) := Lib.hid rfl
  cases h2 : levOk l
  · have HN : Hid (false = validB l s) := Lib.hid (by rw [HP.out, h2]; simp)
    go_enter Try.func71, Try.ntmps71
    go_wp2_with fail
    refine (specLevelValid_any l A A' c c' _ (h.below (by (repeat (first | (with_reducible assumption) | (with_reducible exact Below.refl _ _) | (with_reducible refine below_alloc ?_ _) | (with_reducible refine below_setCell ?_ ?_ _; (simp <;> omega)) | (with_reducible refine below_drew ?_) | (with_reducible refine below_drewN ?_ _) | (with_reducible refine below_after ?_ (by assumption)))))) (hg.below (by (repeat (first | (with_reducible assumption) | (with_reducible exact Below.refl _ _) | (with_reducible refine below_alloc ?_ _) | (with_reducible refine below_setCell ?_ ?_ _; (simp <;> omega)) | (with_reducible refine below_drew ?_) | (with_reducible refine below_drewN ?_ _) | (with_reducible refine below_after ?_ (by assumption)))))) hn hn').mono ?_
    rw [h2]
    rintro e w1 ⟨rfl, hb1⟩
    go_wp2
    go_ret
    exact ⟨ret_bool HN.out, by (repeat (first | (with_reducible assumption) | (with_reducible exact Below.refl _ _) | (with_reducible refine below_alloc ?_ _) | (with_reducible refine below_setCell ?_ ?_ _; (simp <;> omega)) | (with_reducible refine below_drew ?_) | (with_reducible refine below_drewN ?_ _) | (with_reducible refine below_after ?_ (by assumption))))⟩
  cases h1 : ownB s
  · have HN : Hid (false = validB l s) := Lib.hid (by rw [HP.out, h1]; simp)
    go_enter Try.func71, Try.ntmps71
    go_wp2_with fail
    refine (specLevelValid_any l A A' c c' _ (h.below (by (repeat (first | (with_reducible assumption) | (with_reducible exact Below.refl _ _) | (with_reducible refine below_alloc ?_ _) | (with_reducible refine below_setCell ?_ ?_ _; (simp <;> omega)) | (with_reducible refine below_drew ?_) | (with_reducible refine below_drewN ?_ _) | (with_reducible refine below_after ?_ (by assumption)))))) (hg.below (by (repeat (first | (with_reducible assumption) | (with_reducible exact Below.refl _ _) | (with_reducible refine below_alloc ?_ _) | (with_reducible refine below_setCell ?_ ?_ _; (simp <;> omega)) | (with_reducible refine below_drew ?_) | (with_reducible refine below_drewN ?_ _) | (with_reducible refine below_after ?_ (by assumption)))))) hn hn').mono ?_
    rw [h2]
    rintro e w1 ⟨rfl, hb1⟩
    have L1 : Bk w1 w.heap.size 29 #[.int .i64 l.id, .int .i64 l.ticks, .int .i64 l.start.x, .int .i64 l.start.y, .slice A l.walls.length c, .slice A' l.gates.length c', .int .i64 l.fin.lo.x, .int .i64 l.fin.lo.y, .int .i64 l.fin.hi.x, .int .i64 l.fin.hi.y, .int .i64 l.bans] := Bk.later (by (repeat (first | (with_reducible assumption) | (with_reducible exact Bk.new _ _ _ (by simp; done)) | (with_reducible refine Bk.alloc ?_ _) | (with_reducible refine Bk.drew ?_) | (with_reducible refine Bk.drewN ?_ _) | (with_reducible apply Bk.set') | (with_reducible refine Bk.far ?_ (by first | omega | (simp; done) | (simp; omega)) _) | (with_reducible refine Bk.later ?_ (by assumption)) | (with_reducible refine Bk.grown ?_ (by assumption) (by first | omega | (simp; done) | (simp; omega))) | (exact SetTo.mk (by with_reducible rfl)) | (exact SetTo.mk (by simp))))) hb1
    have S1 : Bk w1 (w.heap.size + 1) 31 #[.int .i64 s.t, .int .i64 s.p.x, .int .i64 s.p.y, .int .i64 s.f.x, .int .i64 s.f.y, .int .i64 s.d, .int .i64 s.g, .bool s.dn, .bool s.ov] := Bk.later (by (repeat (first | (with_reducible assumption) | (with_reducible exact Bk.new _ _ _ (by simp; done)) | (with_reducible refine Bk.alloc ?_ _) | (with_reducible refine Bk.drew ?_) | (with_reducible refine Bk.drewN ?_ _) | (with_reducible apply Bk.set') | (with_reducible refine Bk.far ?_ (by first | omega | (simp; done) | (simp; omega)) _) | (with_reducible refine Bk.later ?_ (by assumption)) | (with_reducible refine Bk.grown ?_ (by assumption) (by first | omega | (simp; done) | (simp; omega))) | (exact SetTo.mk (by with_reducible rfl)) | (exact SetTo.mk (by simp))))) hb1
    have d1 : Below w.heap.size w w1 := below_after (by (repeat (first | (with_reducible assumption) | (with_reducible exact Below.refl _ _) | (with_reducible refine below_alloc ?_ _) | (with_reducible refine below_setCell ?_ ?_ _; (simp <;> omega)) | (with_reducible refine below_drew ?_) | (with_reducible refine below_drewN ?_ _) | (with_reducible refine below_after ?_ (by assumption))))) hb1
    clear hb1
    obtain ⟨⟨l0, l1, l2, l3, l4, l5, l6, l7, l8, l9, l10⟩, lf⟩ := L1.c11; obtain ⟨⟨s0, s1, s2, s3, s4, s5, s6, s7, s8⟩, sf⟩ := S1.c9
    go_wp2_with fail
    refine (l13Own_any s _).mono ?_
    rw [h1]
    rintro e w2 ⟨rfl, hb2⟩
    go_wp2
    go_ret
    exact ⟨ret_bool HN.out, by (repeat (first | (with_reducible assumption) | (with_reducible exact Below.refl _ _) | (with_reducible refine below_alloc ?_ _) | (with_reducible refine below_setCell ?_ ?_ _; (simp <;> omega)) | (with_reducible refine below_drew ?_) | (with_reducible refine below_drewN ?_ _) | (with_reducible refine below_after ?_ (by assumption))))⟩
  have HSP := Lib.hid (ownB_iff.1 h1).2.1
  have HWB : Hid (boxesB l.walls = true) := Lib.hid (levOk_walls h2)
  by_cases h3 : s.t ≤ l.ticks
  rotate_left
  · have HN : Hid (false = validB l s) := Lib.hid (by rw [HP.out, decide_eq_false h3]; simp)
    go_enter Try.func71, Try.ntmps71
    go_wp2_with fail
    refine (specLevelValid_any l A A' c c' _ (h.below (by (repeat (first | (with_reducible assumption) | (with_reducible exact Below.refl _ _) | (with_reducible refine below_alloc ?_ _) | (with_reducible refine below_setCell ?_ ?_ _; (simp <;> omega)) | (with_reducible refine below_drew ?_) | (with_reducible refine below_drewN ?_ _) | (with_reducible refine below_after ?_ (by assumption)))))) (hg.below (by (repeat (first | (with_reducible assumption) | (with_reducible exact Below.refl _ _) | (with_reducible refine below_alloc ?_ _) | (with_reducible refine below_setCell ?_ ?_ _; (simp <;> omega)) | (with_reducible refine below_drew ?_) | (with_reducible refine below_drewN ?_ _) | (with_reducible refine below_after ?_ (by assumption)))))) hn hn').mono ?_
    rw [h2]
    rintro e w1 ⟨rfl, hb1⟩
    have L1 : Bk w1 w.heap.size 29 #[.int .i64 l.id, .int .i64 l.ticks, .int .i64 l.start.x, .int .i64 l.start.y, .slice A l.walls.length c, .slice A' l.gates.length c', .int .i64 l.fin.lo.x, .int .i64 l.fin.lo.y, .int .i64 l.fin.hi.x, .int .i64 l.fin.hi.y, .int .i64 l.bans] := Bk.later (by (repeat (first | (with_reducible assumption) | (with_reducible exact Bk.new _ _ _ (by simp; done)) | (with_reducible refine Bk.alloc ?_ _) | (with_reducible refine Bk.drew ?_) | (with_reducible refine Bk.drewN ?_ _) | (with_reducible apply Bk.set') | (with_reducible refine Bk.far ?_ (by first | omega | (simp; done) | (simp; omega)) _) | (with_reducible refine Bk.later ?_ (by assumption)) | (with_reducible refine Bk.grown ?_ (by assumption) (by first | omega | (simp; done) | (simp; omega))) | (exact SetTo.mk (by with_reducible rfl)) | (exact SetTo.mk (by simp))))) hb1
    have S1 : Bk w1 (w.heap.size + 1) 31 #[.int .i64 s.t, .int .i64 s.p.x, .int .i64 s.p.y, .int .i64 s.f.x, .int .i64 s.f.y, .int .i64 s.d, .int .i64 s.g, .bool s.dn, .bool s.ov] := Bk.later (by (repeat (first | (with_reducible assumption) | (with_reducible exact Bk.new _ _ _ (by simp; done)) | (with_reducible refine Bk.alloc ?_ _) | (with_reducible refine Bk.drew ?_) | (with_reducible refine Bk.drewN ?_ _) | (with_reducible apply Bk.set') | (with_reducible refine Bk.far ?_ (by first | omega | (simp; done) | (simp; omega)) _) | (with_reducible refine Bk.later ?_ (by assumption)) | (with_reducible refine Bk.grown ?_ (by assumption) (by first | omega | (simp; done) | (simp; omega))) | (exact SetTo.mk (by with_reducible rfl)) | (exact SetTo.mk (by simp))))) hb1
    have d1 : Below w.heap.size w w1 := below_after (by (repeat (first | (with_reducible assumption) | (with_reducible exact Below.refl _ _) | (with_reducible refine below_alloc ?_ _) | (with_reducible refine below_setCell ?_ ?_ _; (simp <;> omega)) | (with_reducible refine below_drew ?_) | (with_reducible refine below_drewN ?_ _) | (with_reducible refine below_after ?_ (by assumption))))) hb1
    clear hb1
    obtain ⟨⟨l0, l1, l2, l3, l4, l5, l6, l7, l8, l9, l10⟩, lf⟩ := L1.c11; obtain ⟨⟨s0, s1, s2, s3, s4, s5, s6, s7, s8⟩, sf⟩ := S1.c9
    go_wp2_with fail
    refine (l13Own_any s _).mono ?_
    rw [h1]
    rintro e w2 ⟨rfl, hb2⟩
    have L2 := L1.later hb2
    have S2 := S1.later hb2
    have d2 := below_after d1 hb2
    clear hb2 l0 l1 l2 l3 l4 l5 l6 l7 l8 l9 l10 lf s0 s1 s2 s3 s4 s5 s6 s7 s8 sf L1 S1 d1
    obtain ⟨⟨l0, l1, l2, l3, l4, l5, l6, l7, l8, l9, l10⟩, lf⟩ := L2.c11; obtain ⟨⟨s0, s1, s2, s3, s4, s5, s6, s7, s8⟩, sf⟩ := S2.c9
    go_wp2
    go_ret
    exact ⟨ret_bool HN.out, by (repeat (first | (with_reducible assumption) | (with_reducible exact Below.refl _ _) | (with_reducible refine below_alloc ?_ _) | (with_reducible refine below_setCell ?_ ?_ _; (simp <;> omega)) | (with_reducible refine below_drew ?_) | (with_reducible refine below_drewN ?_ _) | (with_reducible refine below_after ?_ (by assumption))))⟩
  by_cases h4 : s.g ≤ (l.gates.length : Int)
  rotate_left
  · have HN : Hid (false = validB l s) := Lib.hid (by rw [HP.out, decide_eq_false h4]; simp)
    go_enter Try.func71, Try.ntmps71
    go_wp2_with fail
    refine (specLevelValid_any l A A' c c' _ (h.below (by (repeat (first | (with_reducible assumption) | (with_reducible exact Below.refl _ _) | (with_reducible refine below_alloc ?_ _) | (with_reducible refine below_setCell ?_ ?_ _; (simp <;> omega)) | (with_reducible refine below_drew ?_) | (with_reducible refine below_drewN ?_ _) | (with_reducible refine below_after ?_ (by assumption)))))) (hg.below (by (repeat (first | (with_reducible assumption) | (with_reducible exact Below.refl _ _) | (with_reducible refine below_alloc ?_ _) | (with_reducible refine below_setCell ?_ ?_ _; (simp <;> omega)) | (with_reducible refine below_drew ?_) | (with_reducible refine below_drewN ?_ _) | (with_reducible refine below_after ?_ (by assumption)))))) hn hn').mono ?_
    rw [h2]
    rintro e w1 ⟨rfl, hb1⟩
    have L1 : Bk w1 w.heap.size 29 #[.int .i64 l.id, .int .i64 l.ticks, .int .i64 l.start.x, .int .i64 l.start.y, .slice A l.walls.length c, .slice A' l.gates.length c', .int .i64 l.fin.lo.x, .int .i64 l.fin.lo.y, .int .i64 l.fin.hi.x, .int .i64 l.fin.hi.y, .int .i64 l.bans] := Bk.later (by (repeat (first | (with_reducible assumption) | (with_reducible exact Bk.new _ _ _ (by simp; done)) | (with_reducible refine Bk.alloc ?_ _) | (with_reducible refine Bk.drew ?_) | (with_reducible refine Bk.drewN ?_ _) | (with_reducible apply Bk.set') | (with_reducible refine Bk.far ?_ (by first | omega | (simp; done) | (simp; omega)) _) | (with_reducible refine Bk.later ?_ (by assumption)) | (with_reducible refine Bk.grown ?_ (by assumption) (by first | omega | (simp; done) | (simp; omega))) | (exact SetTo.mk (by with_reducible rfl)) | (exact SetTo.mk (by simp))))) hb1
    have S1 : Bk w1 (w.heap.size + 1) 31 #[.int .i64 s.t, .int .i64 s.p.x, .int .i64 s.p.y, .int .i64 s.f.x, .int .i64 s.f.y, .int .i64 s.d, .int .i64 s.g, .bool s.dn, .bool s.ov] := Bk.later (by (repeat (first | (with_reducible assumption) | (with_reducible exact Bk.new _ _ _ (by simp; done)) | (with_reducible refine Bk.alloc ?_ _) | (with_reducible refine Bk.drew ?_) | (with_reducible refine Bk.drewN ?_ _) | (with_reducible apply Bk.set') | (with_reducible refine Bk.far ?_ (by first | omega | (simp; done) | (simp; omega)) _) | (with_reducible refine Bk.later ?_ (by assumption)) | (with_reducible refine Bk.grown ?_ (by assumption) (by first | omega | (simp; done) | (simp; omega))) | (exact SetTo.mk (by with_reducible rfl)) | (exact SetTo.mk (by simp))))) hb1
    have d1 : Below w.heap.size w w1 := below_after (by (repeat (first | (with_reducible assumption) | (with_reducible exact Below.refl _ _) | (with_reducible refine below_alloc ?_ _) | (with_reducible refine below_setCell ?_ ?_ _; (simp <;> omega)) | (with_reducible refine below_drew ?_) | (with_reducible refine below_drewN ?_ _) | (with_reducible refine below_after ?_ (by assumption))))) hb1
    clear hb1
    obtain ⟨⟨l0, l1, l2, l3, l4, l5, l6, l7, l8, l9, l10⟩, lf⟩ := L1.c11; obtain ⟨⟨s0, s1, s2, s3, s4, s5, s6, s7, s8⟩, sf⟩ := S1.c9
    go_wp2_with fail
    refine (l13Own_any s _).mono ?_
    rw [h1]
    rintro e w2 ⟨rfl, hb2⟩
    have L2 := L1.later hb2
    have S2 := S1.later hb2
    have d2 := below_after d1 hb2
    clear hb2 l0 l1 l2 l3 l4 l5 l6 l7 l8 l9 l10 lf s0 s1 s2 s3 s4 s5 s6 s7 s8 sf L1 S1 d1
    obtain ⟨⟨l0, l1, l2, l3, l4, l5, l6, l7, l8, l9, l10⟩, lf⟩ := L2.c11; obtain ⟨⟨s0, s1, s2, s3, s4, s5, s6, s7, s8⟩, sf⟩ := S2.c9
    go_wp2
    go_ret
    exact ⟨ret_bool HN.out, by (repeat (first | (with_reducible assumption) | (with_reducible exact Below.refl _ _) | (with_reducible refine below_alloc ?_ _) | (with_reducible refine below_setCell ?_ ?_ _; (simp <;> omega)) | (with_reducible refine below_drew ?_) | (with_reducible refine below_drewN ?_ _) | (with_reducible refine below_after ?_ (by assumption))))⟩
  cases h5 : freeB l s.p
  · have HN : Hid (false = validB l s) := Lib.hid (by rw [HP.out, h5]; simp)
    go_enter Try.func71, Try.ntmps71
    go_wp2_with fail
    refine (specLevelValid_any l A A' c c' _ (h.below (by (repeat (first | (with_reducible assumption) | (with_reducible exact Below.refl _ _) | (with_reducible refine below_alloc ?_ _) | (with_reducible refine below_setCell ?_ ?_ _; (simp <;> omega)) | (with_reducible refine below_drew ?_) | (with_reducible refine below_drewN ?_ _) | (with_reducible refine below_after ?_ (by assumption)))))) (hg.below (by (repeat (first | (with_reducible assumption) | (with_reducible exact Below.refl _ _) | (with_reducible refine below_alloc ?_ _) | (with_reducible refine below_setCell ?_ ?_ _; (simp <;> omega)) | (with_reducible refine below_drew ?_) | (with_reducible refine below_drewN ?_ _) | (with_reducible refine below_after ?_ (by assumption)))))) hn hn').mono ?_
    rw [h2]
    rintro e w1 ⟨rfl, hb1⟩
    have L1 : Bk w1 w.heap.size 29 #[.int .i64 l.id, .int .i64 l.ticks, .int .i64 l.start.x, .int .i64 l.start.y, .slice A l.walls.length c, .slice A' l.gates.length c', .int .i64 l.fin.lo.x, .int .i64 l.fin.lo.y, .int .i64 l.fin.hi.x, .int .i64 l.fin.hi.y, .int .i64 l.bans] := Bk.later (by (repeat (first | (with_reducible assumption) | (with_reducible exact Bk.new _ _ _ (by simp; done)) | (with_reducible refine Bk.alloc ?_ _) | (with_reducible refine Bk.drew ?_) | (with_reducible refine Bk.drewN ?_ _) | (with_reducible apply Bk.set') | (with_reducible refine Bk.far ?_ (by first | omega | (simp; done) | (simp; omega)) _) | (with_reducible refine Bk.later ?_ (by assumption)) | (with_reducible refine Bk.grown ?_ (by assumption) (by first | omega | (simp; done) | (simp; omega))) | (exact SetTo.mk (by with_reducible rfl)) | (exact SetTo.mk (by simp))))) hb1
    have S1 : Bk w1 (w.heap.size + 1) 31 #[.int .i64 s.t, .int .i64 s.p.x, .int .i64 s.p.y, .int .i64 s.f.x, .int .i64 s.f.y, .int .i64 s.d, .int .i64 s.g, .bool s.dn, .bool s.ov] := Bk.later (by (repeat (first | (with_reducible assumption) | (with_reducible exact Bk.new _ _ _ (by simp; done)) | (with_reducible refine Bk.alloc ?_ _) | (with_reducible refine Bk.drew ?_) | (with_reducible refine Bk.drewN ?_ _) | (with_reducible apply Bk.set') | (with_reducible refine Bk.far ?_ (by first | omega | (simp; done) | (simp; omega)) _) | (with_reducible refine Bk.later ?_ (by assumption)) | (with_reducible refine Bk.grown ?_ (by assumption) (by first | omega | (simp; done) | (simp; omega))) | (exact SetTo.mk (by with_reducible rfl)) | (exact SetTo.mk (by simp))))) hb1
    have d1 : Below w.heap.size w w1 := below_after (by (repeat (first | (with_reducible assumption) | (with_reducible exact Below.refl _ _) | (with_reducible refine below_alloc ?_ _) | (with_reducible refine below_setCell ?_ ?_ _; (simp <;> omega)) | (with_reducible refine below_drew ?_) | (with_reducible refine below_drewN ?_ _) | (with_reducible refine below_after ?_ (by assumption))))) hb1
    clear hb1
    obtain ⟨⟨l0, l1, l2, l3, l4, l5, l6, l7, l8, l9, l10⟩, lf⟩ := L1.c11; obtain ⟨⟨s0, s1, s2, s3, s4, s5, s6, s7, s8⟩, sf⟩ := S1.c9
    go_wp2_with fail
    refine (l13Own_any s _).mono ?_
    rw [h1]
    rintro e w2 ⟨rfl, hb2⟩
    have L2 := L1.later hb2
    have S2 := S1.later hb2
    have d2 := below_after d1 hb2
    clear hb2 l0 l1 l2 l3 l4 l5 l6 l7 l8 l9 l10 lf s0 s1 s2 s3 s4 s5 s6 s7 s8 sf L1 S1 d1
    obtain ⟨⟨l0, l1, l2, l3, l4, l5, l6, l7, l8, l9, l10⟩, lf⟩ := L2.c11; obtain ⟨⟨s0, s1, s2, s3, s4, s5, s6, s7, s8⟩, sf⟩ := S2.c9
    go_wp2_with fail
    refine (l11Free_any l s.p A A' c c' _ (h.below d2) hn (walls_bd HWB.out) (vOk_bdV HSP.out)).mono ?_
    rw [h5]
    rintro e w3 ⟨rfl, hb3⟩
    go_wp2
    go_ret
    exact ⟨ret_bool HN.out, by (repeat (first | (with_reducible assumption) | (with_reducible exact Below.refl _ _) | (with_reducible refine below_alloc ?_ _) | (with_reducible refine below_setCell ?_ ?_ _; (simp <;> omega)) | (with_reducible refine below_drew ?_) | (with_reducible refine below_drewN ?_ _) | (with_reducible refine below_after ?_ (by assumption))))⟩
  have HQ : Hid (validB l s = (!s.dn || s.g == (l.gates.length : Int))) := Lib.hid (by rw [HP.out, h1, h2, h5, decide_eq_true h3, decide_eq_true h4]; simp)
  obtain ⟨t, p, f, d, g, dn, ov⟩ := s
  simp only at *
  cases dn
  · have HN : Hid (true = validB l ⟨t, p, f, d, g, false, ov⟩) := Lib.hid (by rw [HQ.out]; rfl)
    go_enter Try.func71, Try.ntmps71
    go_wp2_with fail
    refine (specLevelValid_any l A A' c c' _ (h.below (by (repeat (first | (with_reducible assumption) | (with_reducible exact Below.refl _ _) | (with_reducible refine below_alloc ?_ _) | (with_reducible refine below_setCell ?_ ?_ _; (simp <;> omega)) | (with_reducible refine below_drew ?_) | (with_reducible refine below_drewN ?_ _) | (with_reducible refine below_after ?_ (by assumption)))))) (hg.below (by (repeat (first | (with_reducible assumption) | (with_reducible exact Below.refl _ _) | (with_reducible refine below_alloc ?_ _) | (with_reducible refine below_setCell ?_ ?_ _; (simp <;> omega)) | (with_reducible refine below_drew ?_) | (with_reducible refine below_drewN ?_ _) | (with_reducible refine below_after ?_ (by assumption)))))) hn hn').mono ?_
    rw [h2]
    rintro e w1 ⟨rfl, hb1⟩
    have L1 : Bk w1 w.heap.size 29 #[.int .i64 l.id, .int .i64 l.ticks, .int .i64 l.start.x, .int .i64 l.start.y, .slice A l.walls.length c, .slice A' l.gates.length c', .int .i64 l.fin.lo.x, .int .i64 l.fin.lo.y, .int .i64 l.fin.hi.x, .int .i64 l.fin.hi.y, .int .i64 l.bans] := Bk.later (by (repeat (first | (with_reducible assumption) | (with_reducible exact Bk.new _ _ _ (by simp; done)) | (with_reducible refine Bk.alloc ?_ _) | (with_reducible refine Bk.drew ?_) | (with_reducible refine Bk.drewN ?_ _) | (with_reducible apply Bk.set') | (with_reducible refine Bk.far ?_ (by first | omega | (simp; done) | (simp; omega)) _) | (with_reducible refine Bk.later ?_ (by assumption)) | (with_reducible refine Bk.grown ?_ (by assumption) (by first | omega | (simp; done) | (simp; omega))) | (exact SetTo.mk (by with_reducible rfl)) | (exact SetTo.mk (by simp))))) hb1
    have S1 : Bk w1 (w.heap.size + 1) 31 #[.int .i64 t, .int .i64 p.x, .int .i64 p.y, .int .i64 f.x, .int .i64 f.y, .int .i64 d, .int .i64 g, .bool false, .bool ov] := Bk.later (by (repeat (first | (with_reducible assumption) | (with_reducible exact Bk.new _ _ _ (by simp; done)) | (with_reducible refine Bk.alloc ?_ _) | (with_reducible refine Bk.drew ?_) | (with_reducible refine Bk.drewN ?_ _) | (with_reducible apply Bk.set') | (with_reducible refine Bk.far ?_ (by first | omega | (simp; done) | (simp; omega)) _) | (with_reducible refine Bk.later ?_ (by assumption)) | (with_reducible refine Bk.grown ?_ (by assumption) (by first | omega | (simp; done) | (simp; omega))) | (exact SetTo.mk (by with_reducible rfl)) | (exact SetTo.mk (by simp))))) hb1
    have d1 : Below w.heap.size w w1 := below_after (by (repeat (first | (with_reducible assumption) | (with_reducible exact Below.refl _ _) | (with_reducible refine below_alloc ?_ _) | (with_reducible refine below_setCell ?_ ?_ _; (simp <;> omega)) | (with_reducible refine below_drew ?_) | (with_reducible refine below_drewN ?_ _) | (with_reducible refine below_after ?_ (by assumption))))) hb1
    clear hb1
    obtain ⟨⟨l0, l1, l2, l3, l4, l5, l6, l7, l8, l9, l10⟩, lf⟩ := L1.c11; obtain ⟨⟨s0, s1, s2, s3, s4, s5, s6, s7, s8⟩, sf⟩ := S1.c9
    go_wp2_with fail
    refine (l13Own_any ⟨t, p, f, d, g, false, ov⟩ _).mono ?_
    rw [h1]
    rintro e w2 ⟨rfl, hb2⟩
    have L2 := L1.later hb2
    have S2 := S1.later hb2
    have d2 := below_after d1 hb2
    clear hb2 l0 l1 l2 l3 l4 l5 l6 l7 l8 l9 l10 lf s0 s1 s2 s3 s4 s5 s6 s7 s8 sf L1 S1 d1
    obtain ⟨⟨l0, l1, l2, l3, l4, l5, l6, l7, l8, l9, l10⟩, lf⟩ := L2.c11; obtain ⟨⟨s0, s1, s2, s3, s4, s5, s6, s7, s8⟩, sf⟩ := S2.c9
    go_wp2_with fail
    refine (l11Free_any l p A A' c c' _ (h.below d2) hn (walls_bd HWB.out) (vOk_bdV HSP.out)).mono ?_
    rw [h5]
    rintro e w3 ⟨rfl, hb3⟩
    have L3 := L2.later hb3
    have S3 := S2.later hb3
    have d3 := below_after d2 hb3
    clear hb3 l0 l1 l2 l3 l4 l5 l6 l7 l8 l9 l10 lf s0 s1 s2 s3 s4 s5 s6 s7 s8 sf L2 S2 d2
    obtain ⟨⟨l0, l1, l2, l3, l4, l5, l6, l7, l8, l9, l10⟩, lf⟩ := L3.c11; obtain ⟨⟨s0, s1, s2, s3, s4, s5, s6, s7, s8⟩, sf⟩ := S3.c9
    go_wp2
    go_ret
    exact ⟨ret_bool HN.out, by (repeat (first | (with_reducible assumption) | (with_reducible exact Below.refl _ _) | (with_reducible refine below_alloc ?_ _) | (with_reducible refine below_setCell ?_ ?_ _; (simp <;> omega)) | (with_reducible refine below_drew ?_) | (with_reducible refine below_drewN ?_ _) | (with_reducible refine below_after ?_ (by assumption))))⟩
  by_cases h6 : g = (l.gates.length : Int)
  · have HN : Hid (true = validB l ⟨t, p, f, d, g, true, ov⟩) := Lib.hid (by rw [HQ.out, h6]; simp)
    subst h6
    go_enter Try.func71, Try.ntmps71
    go_wp2_with fail
    refine (specLevelValid_any l A A' c c' _ (h.below (by (repeat (first | (with_reducible assumption) | (with_reducible exact Below.refl _ _) | (with_reducible refine below_alloc ?_ _) | (with_reducible refine below_setCell ?_ ?_ _; (simp <;> omega)) | (with_reducible refine below_drew ?_) | (with_reducible refine below_drewN ?_ _) | (with_reducible refine below_after ?_ (by assumption)))))) (hg.below (by (repeat (first | (with_reducible assumption) | (with_reducible exact Below.refl _ _) | (with_reducible refine below_alloc ?_ _) | (with_reducible refine below_setCell ?_ ?_ _; (simp <;> omega)) | (with_reducible refine below_drew ?_) | (with_reducible refine below_drewN ?_ _) | (with_reducible refine below_after ?_ (by assumption)))))) hn hn').mono ?_
    rw [h2]
    rintro e w1 ⟨rfl, hb1⟩
    have L1 : Bk w1 w.heap.size 29 #[.int .i64 l.id, .int .i64 l.ticks, .int .i64 l.start.x, .int .i64 l.start.y, .slice A l.walls.length c, .slice A' l.gates.length c', .int .i64 l.fin.lo.x, .int .i64 l.fin.lo.y, .int .i64 l.fin.hi.x, .int .i64 l.fin.hi.y, .int .i64 l.bans] := Bk.later (by (repeat (first | (with_reducible assumption) | (with_reducible exact Bk.new _ _ _ (by simp; done)) | (with_reducible refine Bk.alloc ?_ _) | (with_reducible refine Bk.drew ?_) | (with_reducible refine Bk.drewN ?_ _) | (with_reducible apply Bk.set') | (with_reducible refine Bk.far ?_ (by first | omega | (simp; done) | (simp; omega)) _) | (with_reducible refine Bk.later ?_ (by assumption)) | (with_reducible refine Bk.grown ?_ (by assumption) (by first | omega | (simp; done) | (simp; omega))) | (exact SetTo.mk (by with_reducible rfl)) | (exact SetTo.mk (by simp))))) hb1
    have S1 : Bk w1 (w.heap.size + 1) 31 #[.int .i64 t, .int .i64 p.x, .int .i64 p.y, .int .i64 f.x, .int .i64 f.y, .int .i64 d, .int .i64 (l.gates.length : Int), .bool true, .bool ov] := Bk.later (by (repeat (first | (with_reducible assumption) | (with_reducible exact Bk.new _ _ _ (by simp; done)) | (with_reducible refine Bk.alloc ?_ _) | (with_reducible refine Bk.drew ?_) | (with_reducible refine Bk.drewN ?_ _) | (with_reducible apply Bk.set') | (with_reducible refine Bk.far ?_ (by first | omega | (simp; done) | (simp; omega)) _) | (with_reducible refine Bk.later ?_ (by assumption)) | (with_reducible refine Bk.grown ?_ (by assumption) (by first | omega | (simp; done) | (simp; omega))) | (exact SetTo.mk (by with_reducible rfl)) | (exact SetTo.mk (by simp))))) hb1
    have d1 : Below w.heap.size w w1 := below_after (by (repeat (first | (with_reducible assumption) | (with_reducible exact Below.refl _ _) | (with_reducible refine below_alloc ?_ _) | (with_reducible refine below_setCell ?_ ?_ _; (simp <;> omega)) | (with_reducible refine below_drew ?_) | (with_reducible refine below_drewN ?_ _) | (with_reducible refine below_after ?_ (by assumption))))) hb1
    clear hb1
    obtain ⟨⟨l0, l1, l2, l3, l4, l5, l6, l7, l8, l9, l10⟩, lf⟩ := L1.c11; obtain ⟨⟨s0, s1, s2, s3, s4, s5, s6, s7, s8⟩, sf⟩ := S1.c9
    go_wp2_with fail
    refine (l13Own_any ⟨t, p, f, d, (l.gates.length : Int), true, ov⟩ _).mono ?_
    rw [h1]
    rintro e w2 ⟨rfl, hb2⟩
    have L2 := L1.later hb2
    have S2 := S1.later hb2
    have d2 := below_after d1 hb2
    clear hb2 l0 l1 l2 l3 l4 l5 l6 l7 l8 l9 l10 lf s0 s1 s2 s3 s4 s5 s6 s7 s8 sf L1 S1 d1
    obtain ⟨⟨l0, l1, l2, l3, l4, l5, l6, l7, l8, l9, l10⟩, lf⟩ := L2.c11; obtain ⟨⟨s0, s1, s2, s3, s4, s5, s6, s7, s8⟩, sf⟩ := S2.c9
    go_wp2_with fail
    refine (l11Free_any l p A A' c c' _ (h.below d2) hn (walls_bd HWB.out) (vOk_bdV HSP.out)).mono ?_
    rw [h5]
    rintro e w3 ⟨rfl, hb3⟩
    have L3 := L2.later hb3
    have S3 := S2.later hb3
    have d3 := below_after d2 hb3
    clear hb3 l0 l1 l2 l3 l4 l5 l6 l7 l8 l9 l10 lf s0 s1 s2 s3 s4 s5 s6 s7 s8 sf L2 S2 d2
    obtain ⟨⟨l0, l1, l2, l3, l4, l5, l6, l7, l8, l9, l10⟩, lf⟩ := L3.c11; obtain ⟨⟨s0, s1, s2, s3, s4, s5, s6, s7, s8⟩, sf⟩ := S3.c9
    go_wp2
    go_ret
    exact ⟨ret_bool HN.out, by (repeat (first | (with_reducible assumption) | (with_reducible exact Below.refl _ _) | (with_reducible refine below_alloc ?_ _) | (with_reducible refine below_setCell ?_ ?_ _; (simp <;> omega)) | (with_reducible refine below_drew ?_) | (with_reducible refine below_drewN ?_ _) | (with_reducible refine below_after ?_ (by assumption))))⟩
  · have HN : Hid (false = validB l ⟨t, p, f, d, g, true, ov⟩) := Lib.hid (by rw [HQ.out]; simp [h6])
    have h6b : (g == (l.gates.length : Int)) = false := by simpa using h6
    go_enter Try.func71, Try.ntmps71
    go_wp2_with fail
    refine (specLevelValid_any l A A' c c' _ (h.below (by (repeat (first | (with_reducible assumption) | (with_reducible exact Below.refl _ _) | (with_reducible refine below_alloc ?_ _) | (with_reducible refine below_setCell ?_ ?_ _; (simp <;> omega)) | (with_reducible refine below_drew ?_) | (with_reducible refine below_drewN ?_ _) | (with_reducible refine below_after ?_ (by assumption)))))) (hg.below (by (repeat (first | (with_reducible assumption) | (with_reducible exact Below.refl _ _) | (with_reducible refine below_alloc ?_ _) | (with_reducible refine below_setCell ?_ ?_ _; (simp <;> omega)) | (with_reducible refine below_drew ?_) | (with_reducible refine below_drewN ?_ _) | (with_reducible refine below_after ?_ (by assumption)))))) hn hn').mono ?_
    rw [h2]
    rintro e w1 ⟨rfl, hb1⟩
    have L1 : Bk w1 w.heap.size 29 #[.int .i64 l.id, .int .i64 l.ticks, .int .i64 l.start.x, .int .i64 l.start.y, .slice A l.walls.length c, .slice A' l.gates.length c', .int .i64 l.fin.lo.x, .int .i64 l.fin.lo.y, .int .i64 l.fin.hi.x, .int .i64 l.fin.hi.y, .int .i64 l.bans] := Bk.later (by (repeat (first | (with_reducible assumption) | (with_reducible exact Bk.new _ _ _ (by simp; done)) | (with_reducible refine Bk.alloc ?_ _) | (with_reducible refine Bk.drew ?_) | (with_reducible refine Bk.drewN ?_ _) | (with_reducible apply Bk.set') | (with_reducible refine Bk.far ?_ (by first | omega | (simp; done) | (simp; omega)) _) | (with_reducible refine Bk.later ?_ (by assumption)) | (with_reducible refine Bk.grown ?_ (by assumption) (by first | omega | (simp; done) | (simp; omega))) | (exact SetTo.mk (by with_reducible rfl)) | (exact SetTo.mk (by simp))))) hb1
    have S1 : Bk w1 (w.heap.size + 1) 31 #[.int .i64 t, .int .i64 p.x, .int .i64 p.y, .int .i64 f.x, .int .i64 f.y, .int .i64 d, .int .i64 g, .bool true, .bool ov] := Bk.later (by (repeat (first | (with_reducible assumption) | (with_reducible exact Bk.new _ _ _ (by simp; done)) | (with_reducible refine Bk.alloc ?_ _) | (with_reducible refine Bk.drew ?_) | (with_reducible refine Bk.drewN ?_ _) | (with_reducible apply Bk.set') | (with_reducible refine Bk.far ?_ (by first | omega | (simp; done) | (simp; omega)) _) | (with_reducible refine Bk.later ?_ (by assumption)) | (with_reducible refine Bk.grown ?_ (by assumption) (by first | omega | (simp; done) | (simp; omega))) | (exact SetTo.mk (by with_reducible rfl)) | (exact SetTo.mk (by simp))))) hb1
    have d1 : Below w.heap.size w w1 := below_after (by (repeat (first | (with_reducible assumption) | (with_reducible exact Below.refl _ _) | (with_reducible refine below_alloc ?_ _) | (with_reducible refine below_setCell ?_ ?_ _; (simp <;> omega)) | (with_reducible refine below_drew ?_) | (with_reducible refine below_drewN ?_ _) | (with_reducible refine below_after ?_ (by assumption))))) hb1
    clear hb1
    obtain ⟨⟨l0, l1, l2, l3, l4, l5, l6, l7, l8, l9, l10⟩, lf⟩ := L1.c11; obtain ⟨⟨s0, s1, s2, s3, s4, s5, s6, s7, s8⟩, sf⟩ := S1.c9
    go_wp2_with fail
    refine (l13Own_any ⟨t, p, f, d, g, true, ov⟩ _).mono ?_
    rw [h1]
    rintro e w2 ⟨rfl, hb2⟩
    have L2 := L1.later hb2
    have S2 := S1.later hb2
    have d2 := below_after d1 hb2
    clear hb2 l0 l1 l2 l3 l4 l5 l6 l7 l8 l9 l10 lf s0 s1 s2 s3 s4 s5 s6 s7 s8 sf L1 S1 d1
    obtain ⟨⟨l0, l1, l2, l3, l4, l5, l6, l7, l8, l9, l10⟩, lf⟩ := L2.c11; obtain ⟨⟨s0, s1, s2, s3, s4, s5, s6, s7, s8⟩, sf⟩ := S2.c9
    go_wp2_with fail
    refine (l11Free_any l p A A' c c' _ (h.below d2) hn (walls_bd HWB.out) (vOk_bdV HSP.out)).mono ?_
    rw [h5]
    rintro e w3 ⟨rfl, hb3⟩
    have L3 := L2.later hb3
    have S3 := S2.later hb3
    have d3 := below_after d2 hb3
    clear hb3 l0 l1 l2 l3 l4 l5 l6 l7 l8 l9 l10 lf s0 s1 s2 s3 s4 s5 s6 s7 s8 sf L2 S2 d2
    obtain ⟨⟨l0, l1, l2, l3, l4, l5, l6, l7, l8, l9, l10⟩, lf⟩ := L3.c11; obtain ⟨⟨s0, s1, s2, s3, s4, s5, s6, s7, s8⟩, sf⟩ := S3.c9
    go_wp2
    go_ret
    exact ⟨ret_bool HN.out, by (repeat (first | (with_reducible assumption) | (with_reducible exact Below.refl _ _) | (with_reducible refine below_alloc ?_ _) | (with_reducible refine below_setCell ?_ ?_ _; (simp <;> omega)) | (with_reducible refine below_drew ?_) | (with_reducible refine below_drewN ?_ _) | (with_reducible refine below_after ?_ (by assumption))))⟩
end Go.Proofs.Ytmfhfebakdkkdaa
