/- The reference's tick: l13Step. Printed by gen/drive.py. -/
import Derived.Test.YtmfhfebakdkkdaaSpecD
namespace Go.Proofs.Ytmfhfebakdkkdaa
open Go.ChangeShapes Go.WideShapes Go.ChangeAt Go.RowKit
set_option maxRecDepth 100000 in
set_option maxHeartbeats 1000000 in
theorem l13Step_any (l : Lev) (s : St) (x : Inp) (A A' : Option Addr) (c c' : Nat) (w : World) (h : Sl w 4 encBx A l.walls.length l.walls) (hg : Sl w 4 encBx A' l.gates.length l.gates) (hn : (l.walls.length : Nat) ≤ 9223372036854775807)
    (hw : ∀ b ∈ l.walls, bdBx b) (hs : sOk l s) (hgl : l.gates.length ≤ 1000000) (ht0 : 0 ≤ s.t) (ht1 : s.t ≤ 1000000) (hx : -1 ≤ x.s ∧ x.s ≤ 1) :
    Calls Try.prog 73 #[.agg #[.int .i64 l.id, .int .i64 l.ticks, .int .i64 l.start.x, .int .i64 l.start.y, .slice A l.walls.length c, .slice A' l.gates.length c', .int .i64 l.fin.lo.x, .int .i64 l.fin.lo.y, .int .i64 l.fin.hi.x, .int .i64 l.fin.hi.y, .int .i64 l.bans], .agg #[.int .i64 s.t, .int .i64 s.p.x, .int .i64 s.p.y, .int .i64 s.f.x, .int .i64 s.f.y, .int .i64 s.d, .int .i64 s.g, .bool s.dn, .bool s.ov], .agg #[.int .i64 x.s, .int .i64 x.p, .bool x.z]] w fun e w' => e = .returned (.agg #[.int .i64 (stepS l s x).t, .int .i64 (stepS l s x).p.x, .int .i64 (stepS l s x).p.y, .int .i64 (stepS l s x).f.x, .int .i64 (stepS l s x).f.y, .int .i64 (stepS l s x).d, .int .i64 (stepS l s x).g, .bool (stepS l s x).dn, .bool (stepS l s x).ov]) ∧ Below w.heap.size w w' := by
  have hp := hs.p
  have hf := hs.f
  have hd0 := hs.d0
  have hd1 := hs.d1
  have hg0 := hs.g0
  have hg1 := hs.g1
  clear hs
  obtain ⟨t, ⟨px, py⟩, ⟨ux, uy⟩, d, g, dn, ov⟩ := s
  obtain ⟨xs, xp, xz⟩ := x
  simp only at *
  cases hdn : dn
  · subst hdn
    cases hov : ov
    · subst hov
      cases xz
      · have hR : Hid (stepS l ⟨t, ⟨px, py⟩, ⟨ux, uy⟩, d, g, false, false⟩ ⟨xs, xp, false⟩ = driveS l ⟨t + 1, ⟨px, py⟩, ⟨ux, uy⟩, d, g, false, false⟩ ⟨xs, xp, false⟩) := Lib.hid (by unfold stepS; simp)
        go_enter Try.func73, Try.ntmps73
        go_wp2_with fail
        refine (l13Drive_any l ⟨t + 1, ⟨px, py⟩, ⟨ux, uy⟩, d, g, false, false⟩ ⟨xs, xp, false⟩ _ _ _ _ _ (h.below (by (repeat (first | (with_reducible exact Below.refl _ _) | (with_reducible refine below_alloc ?_ _) | (with_reducible refine below_setCell ?_ ?_ _; (simp <;> omega)) | (with_reducible refine below_drew ?_) | (with_reducible refine below_drewN ?_ _) | (with_reducible refine below_after ?_ (by assumption)))))) (hg.below (by (repeat (first | (with_reducible exact Below.refl _ _) | (with_reducible refine below_alloc ?_ _) | (with_reducible refine below_setCell ?_ ?_ _; (simp <;> omega)) | (with_reducible refine below_drew ?_) | (with_reducible refine below_drewN ?_ _) | (with_reducible refine below_after ?_ (by assumption)))))) hn hw hp hf hd0 hd1 hg0 (show g ≤ 1000000 by omega) hx rfl rfl).mono ?_
        generalize driveS l ⟨t + 1, ⟨px, py⟩, ⟨ux, uy⟩, d, g, false, false⟩ ⟨xs, xp, false⟩ = D at *
        rintro e w1 ⟨rfl, hb1⟩
        have R1 : Bk w1 (w.heap.size + 1 + 1 + 1) 31 #[.int .i64 0, .int .i64 0, .int .i64 0, .int .i64 0, .int .i64 0, .int .i64 0, .int .i64 0, .bool false, .bool false] := by (repeat (first | (with_reducible assumption) | (with_reducible exact Bk.new _ _ _ (by simp; done)) | (with_reducible refine Bk.alloc ?_ _) | (with_reducible refine Bk.drew ?_) | (with_reducible refine Bk.drewN ?_ _) | (with_reducible apply Bk.set') | (with_reducible refine Bk.far ?_ (by first | omega | (simp; done) | (simp; omega)) _) | (with_reducible refine Bk.later ?_ (by assumption)) | (with_reducible refine Bk.grown ?_ (by assumption) (by first | omega | (simp; done) | (simp; omega))) | (exact SetTo.mk (by with_reducible rfl)) | (exact SetTo.mk (by simp))))
        have hd1 : Below w.heap.size w w1 := by (repeat (first | (with_reducible exact Below.refl _ _) | (with_reducible refine below_alloc ?_ _) | (with_reducible refine below_setCell ?_ ?_ _; (simp <;> omega)) | (with_reducible refine below_drew ?_) | (with_reducible refine below_drewN ?_ _) | (with_reducible refine below_after ?_ (by assumption))))
        clear hb1
        obtain ⟨⟨r0, r1, r2, r3, r4, r5, r6, r7, r8⟩, rf⟩ := R1.c9
        go_wp2
        refine bodyPost_ret (v := .agg #[.int .i64 D.t, .int .i64 D.p.x, .int .i64 D.p.y, .int .i64 D.f.x, .int .i64 D.f.y, .int .i64 D.d, .int .i64 D.g, .bool D.dn, .bool D.ov]) (by simp [results, Try.results73, go_sem, *]) rfl ⟨by rw [hR.out], ?_⟩; (repeat (first | (with_reducible exact Below.refl _ _) | (with_reducible refine below_alloc ?_ _) | (with_reducible refine below_setCell ?_ ?_ _; (simp <;> omega)) | (with_reducible refine below_drew ?_) | (with_reducible refine below_drewN ?_ _) | (with_reducible refine below_after ?_ (by assumption))))
      · have hR : Hid (stepS l ⟨t, ⟨px, py⟩, ⟨ux, uy⟩, d, g, false, false⟩ ⟨xs, xp, true⟩ = ⟨t + 1, ⟨px, py⟩, ⟨ux, uy⟩, d, g, false, false⟩) := Lib.hid (by unfold stepS; simp)
        go_enter Try.func73, Try.ntmps73
        go_wp2
        refine bodyPost_ret (v := .agg #[.int .i64 (t + 1), .int .i64 px, .int .i64 py, .int .i64 ux, .int .i64 uy, .int .i64 d, .int .i64 g, .bool false, .bool false]) (by simp [results, Try.results73, go_sem, *]) rfl ⟨by rw [hR.out], ?_⟩; (repeat (first | (with_reducible exact Below.refl _ _) | (with_reducible refine below_alloc ?_ _) | (with_reducible refine below_setCell ?_ ?_ _; (simp <;> omega)) | (with_reducible refine below_drew ?_) | (with_reducible refine below_drewN ?_ _) | (with_reducible refine below_after ?_ (by assumption))))
    · subst hov
      have hR : Hid (stepS l ⟨t, ⟨px, py⟩, ⟨ux, uy⟩, d, g, false, true⟩ ⟨xs, xp, xz⟩ = ⟨t, ⟨px, py⟩, ⟨ux, uy⟩, d, g, false, true⟩) := Lib.hid (by unfold stepS; simp)
      go_enter Try.func73, Try.ntmps73
      go_wp2
      refine bodyPost_ret (v := .agg #[.int .i64 t, .int .i64 px, .int .i64 py, .int .i64 ux, .int .i64 uy, .int .i64 d, .int .i64 g, .bool false, .bool true]) (by simp [results, Try.results73, go_sem, *]) rfl ⟨by rw [hR.out], ?_⟩; (repeat (first | (with_reducible exact Below.refl _ _) | (with_reducible refine below_alloc ?_ _) | (with_reducible refine below_setCell ?_ ?_ _; (simp <;> omega)) | (with_reducible refine below_drew ?_) | (with_reducible refine below_drewN ?_ _) | (with_reducible refine below_after ?_ (by assumption))))
  · subst hdn
    have hR : Hid (stepS l ⟨t, ⟨px, py⟩, ⟨ux, uy⟩, d, g, true, ov⟩ ⟨xs, xp, xz⟩ = ⟨t, ⟨px, py⟩, ⟨ux, uy⟩, d, g, true, ov⟩) := Lib.hid (by unfold stepS; simp)
    go_enter Try.func73, Try.ntmps73
    go_wp2
    refine bodyPost_ret (v := .agg #[.int .i64 t, .int .i64 px, .int .i64 py, .int .i64 ux, .int .i64 uy, .int .i64 d, .int .i64 g, .bool true, .bool ov]) (by simp [results, Try.results73, go_sem, *]) rfl ⟨by rw [hR.out], ?_⟩; (repeat (first | (with_reducible exact Below.refl _ _) | (with_reducible refine below_alloc ?_ _) | (with_reducible refine below_setCell ?_ ?_ _; (simp <;> omega)) | (with_reducible refine below_drew ?_) | (with_reducible refine below_drewN ?_ _) | (with_reducible refine below_after ?_ (by assumption))))
theorem l13Start_any (l : Lev) (A A' : Option Addr) (c c' : Nat) (w : World) : Calls Try.prog 123 #[.agg #[.int .i64 l.id, .int .i64 l.ticks, .int .i64 l.start.x, .int .i64 l.start.y, .slice A l.walls.length c, .slice A' l.gates.length c', .int .i64 l.fin.lo.x, .int .i64 l.fin.lo.y, .int .i64 l.fin.hi.x, .int .i64 l.fin.hi.y, .int .i64 l.bans]] w fun e w' => e = .returned (.agg #[.int .i64 (st0 l).t, .int .i64 (st0 l).p.x, .int .i64 (st0 l).p.y, .int .i64 (st0 l).f.x, .int .i64 (st0 l).f.y, .int .i64 (st0 l).d, .int .i64 (st0 l).g, .bool (st0 l).dn, .bool (st0 l).ov]) ∧ Below w.heap.size w w' := by
  go_enter Try.func123, Try.ntmps123
  go_wp2
  refine bodyPost_ret (v := .agg #[.int .i64 0, .int .i64 l.start.x, .int .i64 l.start.y, .int .i64 0, .int .i64 0, .int .i64 0, .int .i64 0, .bool false, .bool false]) (by simp [results, Try.results123, go_sem]) rfl ⟨rfl, ?_⟩; (repeat (first | (with_reducible exact Below.refl _ _) | (with_reducible refine below_alloc ?_ _) | (with_reducible refine below_setCell ?_ ?_ _; (simp <;> omega)) | (with_reducible refine below_drew ?_) | (with_reducible refine below_drewN ?_ _) | (with_reducible refine below_after ?_ (by assumption))))
end Go.Proofs.Ytmfhfebakdkkdaa
