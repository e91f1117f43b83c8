/- What follows what; legal inputs; a run begins. (Round B) -/
import Derived.Test.YtmfhfebakdkkdaaImpJ
import Derived.Test.YtmfhfebakdkkdaaSpecG
import Derived.Test.YtmfhfebakdkkdaaImpI
namespace Go.Proofs.Ytmfhfebakdkkdaa
open Go.ChangeShapes Go.WideShapes Go.ChangeAt Go.RowKit Go.Maps
set_option maxRecDepth 100000 in
theorem lookB {w : World} {b n : Nat} {D : DataW Unit} (h : w.ownsMap Try.prog 9 (plainElem Try.prog 4) b n D) {key : Value} {kl : Lit} (hk : keyOf Try.prog 9 key = some kl) {y : Bool} (hy : D.atKey kl (.lit (.bool false)) = .lit (.bool y)) :
    (Instr.lookup 142 (.map (some b)) key false).run Try.prog w = .ok (.bool y) w := by
  obtain ⟨v, ps, hrun, hv⟩ := h.lookup strKey Try.underlying142 (z := .bool false) (by kernel_rfl) (plainElem_bool Try.underlying4 false) hk
  rw [hy] at hv
  have : v = .bool y := by
    unfold plainElem at hv
    rw [Try.underlying4] at hv
    cases v <;> simp at hv
    rw [hv.1]
  rw [hrun, this]
theorem implEngineStart_any (l : Lev) (A A' : Option Addr) (c c' : Nat) (w : World) (h : Sl w 4 encBx A l.walls.length l.walls) (hg : Sl w 4 encBx A' l.gates.length l.gates) (e : A = none → c = 0) (e' : A' = none → c' = 0) (hn : (l.walls.length : Nat) ≤ 9223372036854775807) (hn' : (l.gates.length : Nat) ≤ 9223372036854775807) (hl : levOk l = true) :
    Calls Try.prog 42 #[.agg #[.int .i64 l.id, .int .i64 l.ticks, .int .i64 l.start.x, .int .i64 l.start.y, .slice A l.walls.length c, .slice A' l.gates.length c', .int .i64 l.fin.lo.x, .int .i64 l.fin.lo.y, .int .i64 l.fin.hi.x, .int .i64 l.fin.hi.y, .int .i64 l.bans]] w fun e w' => e = .returned (.tuple #[.agg #[.int .i64 (st0 l).t, .int .i64 (st0 l).p.x, .int .i64 (st0 l).p.y, .int .i64 (st0 l).f.x, .int .i64 (st0 l).f.y, .int .i64 (st0 l).d, .int .i64 (st0 l).g, .bool (st0 l).dn, .bool (st0 l).ov], .bool true]) ∧ Below w.heap.size w w' := by
  go_enter Try.func42, Try.ntmps42
  go_wp2_with fail
  refine (implLevelValid_any l A A' c c' _ (h.below (by (repeat (first | (with_reducible assumption) | (with_reducible exact Below.refl _ _) | (with_reducible refine below_alloc ?_ _) | (with_reducible refine below_setCell ?_ ?_ _; (simp <;> omega)) | (with_reducible refine below_drew ?_) | (with_reducible refine below_drewN ?_ _) | (with_reducible refine below_after ?_ (by assumption)))))) (hg.below (by (repeat (first | (with_reducible assumption) | (with_reducible exact Below.refl _ _) | (with_reducible refine below_alloc ?_ _) | (with_reducible refine below_setCell ?_ ?_ _; (simp <;> omega)) | (with_reducible refine below_drew ?_) | (with_reducible refine below_drewN ?_ _) | (with_reducible refine below_after ?_ (by assumption)))))) e e' hn hn').mono ?_
  rw [hl]
  rintro e w1 ⟨rfl, hb1⟩
  have L1 : Bk w1 w.heap.size 29 #[.int .i64 l.id, .int .i64 l.ticks, .int .i64 l.start.x, .int .i64 l.start.y, .slice A l.walls.length c, .slice A' l.gates.length c', .int .i64 l.fin.lo.x, .int .i64 l.fin.lo.y, .int .i64 l.fin.hi.x, .int .i64 l.fin.hi.y, .int .i64 l.bans] := Bk.later (by (repeat (first | (with_reducible assumption) | (with_reducible exact Bk.new _ _ _ (by simp; done)) | (with_reducible refine Bk.alloc ?_ _) | (with_reducible refine Bk.drew ?_) | (with_reducible refine Bk.drewN ?_ _) | (with_reducible apply Bk.set') | (with_reducible refine Bk.far ?_ (by first | omega | (simp; done) | (simp; omega)) _) | (with_reducible refine Bk.later ?_ (by assumption)) | (with_reducible refine Bk.grown ?_ (by assumption) (by first | omega | (simp; done) | (simp; omega))) | (exact SetTo.mk (by with_reducible rfl)) | (exact SetTo.mk (by simp))))) hb1
  have R1 : Bk w1 (w.heap.size + 1) 31 #[.int .i64 0, .int .i64 0, .int .i64 0, .int .i64 0, .int .i64 0, .int .i64 0, .int .i64 0, .bool false, .bool false] := Bk.later (by (repeat (first | (with_reducible assumption) | (with_reducible exact Bk.new _ _ _ (by simp; done)) | (with_reducible refine Bk.alloc ?_ _) | (with_reducible refine Bk.drew ?_) | (with_reducible refine Bk.drewN ?_ _) | (with_reducible apply Bk.set') | (with_reducible refine Bk.far ?_ (by first | omega | (simp; done) | (simp; omega)) _) | (with_reducible refine Bk.later ?_ (by assumption)) | (with_reducible refine Bk.grown ?_ (by assumption) (by first | omega | (simp; done) | (simp; omega))) | (exact SetTo.mk (by with_reducible rfl)) | (exact SetTo.mk (by simp))))) hb1
  have B1 : Below w.heap.size w w1 := by (repeat (first | (with_reducible assumption) | (with_reducible exact Below.refl _ _) | (with_reducible refine below_alloc ?_ _) | (with_reducible refine below_setCell ?_ ?_ _; (simp <;> omega)) | (with_reducible refine below_drew ?_) | (with_reducible refine below_drewN ?_ _) | (with_reducible refine below_after ?_ (by assumption))))
  clear hb1
  obtain ⟨⟨l0, l1, l2, l3, l4, l5, l6, l7, l8, l9, l10⟩, lf⟩ := L1.c11; obtain ⟨⟨r0, r1, r2, r3, r4, r5, r6, r7, r8⟩, rf⟩ := R1.c9
  go_wp2
  refine bodyPost_ret (v := .tuple #[.agg #[.int .i64 (st0 l).t, .int .i64 (st0 l).p.x, .int .i64 (st0 l).p.y, .int .i64 (st0 l).f.x, .int .i64 (st0 l).f.y, .int .i64 (st0 l).d, .int .i64 (st0 l).g, .bool (st0 l).dn, .bool (st0 l).ov], .bool true]) (by simp [results, Try.results42, go_sem, st0, *]) rfl ⟨rfl, ?_⟩
  (repeat (first | (with_reducible assumption) | (with_reducible exact Below.refl _ _) | (with_reducible refine below_alloc ?_ _) | (with_reducible refine below_setCell ?_ ?_ _; (simp <;> omega)) | (with_reducible refine below_drew ?_) | (with_reducible refine below_drewN ?_ _) | (with_reducible refine below_after ?_ (by assumption))))
set_option maxRecDepth 100000 in
set_option maxHeartbeats 2000000 in
theorem implFollows_any (l : Lev) (st : Int) (x : Inp) (A A' : Option Addr) (c c' : Nat) (w : World) (h0 : 0 ≤ l.bans) (h1 : l.bans ≤ 3) (b1 : -1 ≤ st) (b2 : st ≤ 1) :
    Calls Try.prog 97 #[.agg #[.int .i64 l.id, .int .i64 l.ticks, .int .i64 l.start.x, .int .i64 l.start.y, .slice A l.walls.length c, .slice A' l.gates.length c', .int .i64 l.fin.lo.x, .int .i64 l.fin.lo.y, .int .i64 l.fin.hi.x, .int .i64 l.fin.hi.y, .int .i64 l.bans], .int .i64 st, .agg #[.int .i64 x.s, .int .i64 x.p, .bool x.z]] w fun e w' => e = .returned (.bool (folB l st x)) ∧ Below w.heap.size w w' := by
  obtain ⟨xs, xp, xz⟩ := x
  cases hok : inpOk ⟨xs, xp, xz⟩
  · have hR : Hid (folB l st ⟨xs, xp, xz⟩ = false) := Lib.hid (by unfold folB; rw [hok]; rfl)
    go_enter Try.func97, Try.ntmps97
    go_wp2_with fail
    refine (implForbidden_any l A A' c c' _ h0 h1).mono ?_
    rintro e w1 ⟨b, D, rfl, hM, hB, hP, hb1⟩
    have I1 : Bk w1 (w.heap.size + 1) 33 #[.int .i64 xs, .int .i64 xp, .bool xz] := Bk.later (by (repeat (first | (with_reducible assumption) | (with_reducible exact Bk.new _ _ _ (by simp; done)) | (with_reducible refine Bk.alloc ?_ _) | (with_reducible refine Bk.drew ?_) | (with_reducible refine Bk.drewN ?_ _) | (with_reducible apply Bk.set') | (with_reducible refine Bk.far ?_ (by first | omega | (simp; done) | (simp; omega)) _) | (with_reducible refine Bk.later ?_ (by assumption)) | (with_reducible refine Bk.grown ?_ (by assumption) (by first | omega | (simp; done) | (simp; omega))) | (exact SetTo.mk (by with_reducible rfl)) | (exact SetTo.mk (by simp))))) hb1
    have d1 : Below w.heap.size w w1 := by (repeat (first | (with_reducible assumption) | (with_reducible exact Below.refl _ _) | (with_reducible refine below_alloc ?_ _) | (with_reducible refine below_setCell ?_ ?_ _; (simp <;> omega)) | (with_reducible refine below_drew ?_) | (with_reducible refine below_drewN ?_ _) | (with_reducible refine below_after ?_ (by assumption))))
    clear hb1
    obtain ⟨⟨y0, y1, y2⟩, yf⟩ := I1.c3
    go_wp2_with fail
    refine (implInputValid_any ⟨xs, xp, xz⟩ _).mono ?_
    rw [hok]
    rintro e w2 ⟨rfl, hb2⟩
    go_wp2
    go_ret
    exact ⟨ret_bool hR.out.symm, by (repeat (first | (with_reducible assumption) | (with_reducible exact Below.refl _ _) | (with_reducible refine below_alloc ?_ _) | (with_reducible refine below_setCell ?_ ?_ _; (simp <;> omega)) | (with_reducible refine below_drew ?_) | (with_reducible refine below_drewN ?_ _) | (with_reducible refine below_after ?_ (by assumption))))⟩
  · obtain ⟨k1, k2⟩ := inpOk_s hok
    cases hp : (xp == 2)
    all_goals cases xz
    all_goals cases hB1 : banB l 1
    all_goals cases hB2 : banB l 2
    all_goals
      have HP := Lib.hid hp
      have HB1 := Lib.hid hB1
      have HB2 := Lib.hid hB2
      have HO := Lib.hid hok
      go_enter Try.func97, Try.ntmps97
      go_wp2_with fail
      refine (implForbidden_any l A A' c c' _ h0 h1).mono ?_
      rintro e w1 ⟨b, D, rfl, hM, hB, hP, hb1⟩
      rw [hB1] at hB
      rw [hB2] at hP
      have I1 : Bk w1 (w.heap.size + 1) 33 #[.int .i64 xs, .int .i64 xp, .bool _] := Bk.later (by (repeat (first | (with_reducible assumption) | (with_reducible exact Bk.new _ _ _ (by simp; done)) | (with_reducible refine Bk.alloc ?_ _) | (with_reducible refine Bk.drew ?_) | (with_reducible refine Bk.drewN ?_ _) | (with_reducible apply Bk.set') | (with_reducible refine Bk.far ?_ (by first | omega | (simp; done) | (simp; omega)) _) | (with_reducible refine Bk.later ?_ (by assumption)) | (with_reducible refine Bk.grown ?_ (by assumption) (by first | omega | (simp; done) | (simp; omega))) | (exact SetTo.mk (by with_reducible rfl)) | (exact SetTo.mk (by simp))))) hb1
      have d1 : Below w.heap.size w w1 := by (repeat (first | (with_reducible assumption) | (with_reducible exact Below.refl _ _) | (with_reducible refine below_alloc ?_ _) | (with_reducible refine below_setCell ?_ ?_ _; (simp <;> omega)) | (with_reducible refine below_drew ?_) | (with_reducible refine below_drewN ?_ _) | (with_reducible refine below_after ?_ (by assumption))))
      clear hb1
      obtain ⟨⟨y0, y1, y2⟩, yf⟩ := I1.c3
      go_wp2_with fail
      refine (implInputValid_any ⟨xs, xp, _⟩ _).mono ?_
      rw [hok]
      rintro e w2 ⟨rfl, hb2⟩
      have I2 := I1.later hb2
      have hlB := lookB (ownM_later hM hb2) keyBrake hB
      have hlP := lookB (ownM_later hM hb2) keyPause hP
      have d2 : Below w.heap.size w w2 := by (repeat (first | (with_reducible assumption) | (with_reducible exact Below.refl _ _) | (with_reducible refine below_alloc ?_ _) | (with_reducible refine below_setCell ?_ ?_ _; (simp <;> omega)) | (with_reducible refine below_drew ?_) | (with_reducible refine below_drewN ?_ _) | (with_reducible refine below_after ?_ (by assumption))))
      clear hb2 y0 y1 y2 yf I1 hM hB hP d1
      obtain ⟨⟨j0, j1, j2⟩, jf⟩ := I2.c3
      go_wp2_with (go_at_call 94; refine (inRange_r _ _ _ _).mono ?_; rintro e w4 ⟨rfl, rfl⟩)
      go_ret
      refine ⟨ret_bool (by unfold folB; simp only [HP.out, HB1.out, HB2.out, HO.out]; rfl), ?_⟩; (repeat (first | (with_reducible assumption) | (with_reducible exact Below.refl _ _) | (with_reducible refine below_alloc ?_ _) | (with_reducible refine below_setCell ?_ ?_ _; (simp <;> omega)) | (with_reducible refine below_drew ?_) | (with_reducible refine below_drewN ?_ _) | (with_reducible refine below_after ?_ (by assumption))))
end Go.Proofs.Ytmfhfebakdkkdaa
