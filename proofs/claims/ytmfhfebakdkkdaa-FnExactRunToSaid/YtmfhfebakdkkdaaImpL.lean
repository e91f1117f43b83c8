/- The program's InputsLegal. (Round B) -/
import Derived.Test.YtmfhfebakdkkdaaImpK
namespace Go.Proofs.Ytmfhfebakdkkdaa
open Go.ChangeShapes Go.WideShapes Go.ChangeAt Go.RowKit Go.Maps
set_option maxRecDepth 100000 in
set_option maxHeartbeats 4000000 in
theorem implLegal_any (l : Lev) (ins : List Inp) (A A' A2 : Option Addr) (c c' c2 : Nat) (w : World) (h : Sl w 4 encBx A l.walls.length l.walls) (hg : Sl w 4 encBx A' l.gates.length l.gates) (e : A = none → c = 0) (e' : A' = none → c' = 0) (hn1 : (l.walls.length : Nat) ≤ 9223372036854775807) (hn2 : (l.gates.length : Nat) ≤ 9223372036854775807) (hl : levOk l = true)
    (hs : Sl w 3 encInp A2 ins.length ins) (hn : (ins.length : Nat) ≤ 9223372036854775807) :
    Calls Try.prog 47 #[.agg #[.int .i64 l.id, .int .i64 l.ticks, .int .i64 l.start.x, .int .i64 l.start.y, .slice A l.walls.length c, .slice A' l.gates.length c', .int .i64 l.fin.lo.x, .int .i64 l.fin.lo.y, .int .i64 l.fin.hi.x, .int .i64 l.fin.hi.y, .int .i64 l.bans], .slice A2 ins.length c2] w fun e w' => e = .returned (.int .i64 (legal l ins)) ∧ Below w.heap.size w w' := by
  have hbn : 0 ≤ l.bans ∧ l.bans ≤ 3 := by simp only [levOk, Bool.and_eq_true] at hl; exact inR_iff.1 hl.2.2.2.2.2.2.2.2.1
  obtain ⟨h0, h1⟩ := hbn
  go_enter Try.func47, Try.ntmps47
  go_wp2_with fail
  refine (implLevelValid_any l A A' c c' _ (h.below (by (repeat (first | (with_reducible assumption) | (with_reducible exact Below.refl _ _) | (with_reducible refine below_alloc ?_ _) | (with_reducible refine below_setCell ?_ ?_ _; (simp <;> omega)) | (with_reducible refine below_drew ?_) | (with_reducible refine below_drewN ?_ _) | (with_reducible refine below_after ?_ (by assumption)))))) (hg.below (by (repeat (first | (with_reducible assumption) | (with_reducible exact Below.refl _ _) | (with_reducible refine below_alloc ?_ _) | (with_reducible refine below_setCell ?_ ?_ _; (simp <;> omega)) | (with_reducible refine below_drew ?_) | (with_reducible refine below_drewN ?_ _) | (with_reducible refine below_after ?_ (by assumption)))))) e e' hn1 hn2).mono ?_
  rw [hl]
  rintro e w1 ⟨rfl, hb1⟩
  have L1 : Bk w1 w.heap.size 29 #[.int .i64 l.id, .int .i64 l.ticks, .int .i64 l.start.x, .int .i64 l.start.y, .slice A l.walls.length c, .slice A' l.gates.length c', .int .i64 l.fin.lo.x, .int .i64 l.fin.lo.y, .int .i64 l.fin.hi.x, .int .i64 l.fin.hi.y, .int .i64 l.bans] := Bk.later (by (repeat (first | (with_reducible assumption) | (with_reducible exact Bk.new _ _ _ (by simp; done)) | (with_reducible refine Bk.alloc ?_ _) | (with_reducible refine Bk.drew ?_) | (with_reducible refine Bk.drewN ?_ _) | (with_reducible apply Bk.set') | (with_reducible refine Bk.far ?_ (by first | omega | (simp; done) | (simp; omega)) _) | (with_reducible refine Bk.later ?_ (by assumption)) | (with_reducible refine Bk.grown ?_ (by assumption) (by first | omega | (simp; done) | (simp; omega))) | (exact SetTo.mk (by with_reducible rfl)) | (exact SetTo.mk (by simp))))) hb1
  have B1 : Below w.heap.size w w1 := by (repeat (first | (with_reducible assumption) | (with_reducible exact Below.refl _ _) | (with_reducible refine below_alloc ?_ _) | (with_reducible refine below_setCell ?_ ?_ _; (simp <;> omega)) | (with_reducible refine below_drew ?_) | (with_reducible refine below_drewN ?_ _) | (with_reducible refine below_after ?_ (by assumption))))
  clear hb1
  go_wp2
  go_loopw [5, 6, 14] (fun p s i wr => ∃ k : Nat, k ≤ ins.length ∧ i = .int .i64 k ∧ p = .int .i64 (pausesOf (ins.take k)) ∧ s = .int .i64 (steerOf (ins.take k)) ∧ (∀ j, j < k → badAt l ins j = false) ∧ Bk wr w.heap.size 29 #[.int .i64 l.id, .int .i64 l.ticks, .int .i64 l.start.x, .int .i64 l.start.y, .slice A l.walls.length c, .slice A' l.gates.length c', .int .i64 l.fin.lo.x, .int .i64 l.fin.lo.y, .int .i64 l.fin.hi.x, .int .i64 l.fin.hi.y, .int .i64 l.bans] ∧ Below w.heap.size w wr) (fun _ _ i _ => ins.length - (intOf i).toNat)
  case atStart => exact ⟨0, Nat.zero_le _, rfl, rfl, rfl, fun j hj => by omega, L1, B1⟩
  case round =>
    obtain ⟨k, hk, rfl, rfl, rfl, hgood, hL, hb⟩ := hrel
    by_cases hlt : k < ins.length
    · obtain ⟨b, off, x, rfl, hbl, hx, hc⟩ := (hs.below hb).at_ hlt
      have q0 : wr.cell? ⟨b, off + k * 3, none⟩ = some (.int .i64 x.s) := hc 0 _ rfl
      have q1 : wr.cell? ⟨b, off + k * 3 + 1, none⟩ = some (.int .i64 x.p) := hc 1 _ rfl
      have q2 : wr.cell? ⟨b, off + k * 3 + 2, none⟩ = some (.bool x.z) := hc 2 _ rfl
      have HP := Lib.hid (pausesOf_succ hx)
      have HSt := Lib.hid (steerOf_succ hx)
      have HBad := Lib.hid (badAt_eq (l := l) hx)
      obtain ⟨hst0, hst1⟩ := steer_bd hgood hk
      obtain ⟨hp0, hp1⟩ := pausesOf_bd ins k
      have HG := Lib.hid hgood
      clear hgood hx hc L1
      generalize hPn : pausesOf (ins.take k) = P at *
      generalize hSn : steerOf (ins.take k) = S at *
      clear hPn hSn
      have zL := hL.lt
      obtain ⟨⟨l0, l1, l2, l3, l4, l5, l6, l7, l8, l9, l10⟩, lf⟩ := hL.c11
      obtain ⟨xs, xp, xz⟩ := x
      simp only at q0 q1 q2 HP HSt
      obtain ⟨P', hP', hP'e⟩ : ∃ P' : Int, P' = P + (if xz then 1 else 0) ∧ (0 ≤ P' ∧ P' ≤ k + 1) := ⟨_, rfl, by split <;> omega⟩
      by_cases hA : l.ticks ≤ (k : Int)
      · have hAb : decide (l.ticks ≤ (k : Int)) = true := by simpa using hA
        have hbad : Hid (badAt l ins k = true) := Lib.hid (by rw [HBad.out, hAb]; rfl)
        cases xz
        all_goals
          go_wp2
          go_ret
          exact ⟨ret_int (legal_at hlt HG.out hbad.out).symm, by (repeat (first | (with_reducible assumption) | (with_reducible exact Below.refl _ _) | (with_reducible refine below_alloc ?_ _) | (with_reducible refine below_setCell ?_ ?_ _; (simp <;> omega)) | (with_reducible refine below_drew ?_) | (with_reducible refine below_drewN ?_ _) | (with_reducible refine below_after ?_ (by assumption))))⟩
      · have hAb : decide (l.ticks ≤ (k : Int)) = false := by simpa using hA
        have hA' : (k : Int) < l.ticks := by omega
        clear hA
        by_cases hB3 : 3 < P'
        · have hbad : Hid (badAt l ins k = true) := Lib.hid (by rw [HBad.out, HP.out, hAb, ← hP', show decide (3 < P') = true by simpa using hB3]; rfl)
          cases xz
          · have hP2 : P' = P := by rw [hP']; simp
            have hB4 : 3 < P := by omega
            clear hP' hP2 hP'e hB3
            go_wp2
            go_ret
            exact ⟨ret_int (legal_at hlt HG.out hbad.out).symm, by (repeat (first | (with_reducible assumption) | (with_reducible exact Below.refl _ _) | (with_reducible refine below_alloc ?_ _) | (with_reducible refine below_setCell ?_ ?_ _; (simp <;> omega)) | (with_reducible refine below_drew ?_) | (with_reducible refine below_drewN ?_ _) | (with_reducible refine below_after ?_ (by assumption))))⟩
          · have hP2 : P' = P + 1 := by rw [hP']; simp
            have hB4 : 3 < P + 1 := by omega
            clear hP' hP2 hP'e hB3
            go_wp2
            go_ret
            exact ⟨ret_int (legal_at hlt HG.out hbad.out).symm, by (repeat (first | (with_reducible assumption) | (with_reducible exact Below.refl _ _) | (with_reducible refine below_alloc ?_ _) | (with_reducible refine below_setCell ?_ ?_ _; (simp <;> omega)) | (with_reducible refine below_drew ?_) | (with_reducible refine below_drewN ?_ _) | (with_reducible refine below_after ?_ (by assumption))))⟩
        · cases xz
          all_goals
            have HF : Hid (badAt l ins k = !folB l S ⟨xs, xp, _⟩) := Lib.hid (by rw [HBad.out, HP.out, hAb, ← hP', show decide (3 < P') = false by simpa using hB3]; rfl)
          · have hP2 : P' = P := by rw [hP']; simp
            have hB4 : P ≤ 3 := by omega
            clear hP' hP2 hP'e hB3
            go_wp2_with fail
            refine (implFollows_any l S ⟨xs, xp, false⟩ _ _ _ _ _ h0 h1 hst0 hst1).mono ?_
            rintro e w2 ⟨rfl, hb2⟩
            have X2 : Bk w2 wr.heap.size 33 #[.int .i64 xs, .int .i64 xp, .bool false] := Bk.later (by (repeat (first | (with_reducible assumption) | (with_reducible exact Bk.new _ _ _ (by simp; done)) | (with_reducible refine Bk.alloc ?_ _) | (with_reducible refine Bk.drew ?_) | (with_reducible refine Bk.drewN ?_ _) | (with_reducible apply Bk.set') | (with_reducible refine Bk.far ?_ (by first | omega | (simp; done) | (simp; omega)) _) | (with_reducible refine Bk.later ?_ (by assumption)) | (with_reducible refine Bk.grown ?_ (by assumption) (by first | omega | (simp; done) | (simp; omega))) | (exact SetTo.mk (by with_reducible rfl)) | (exact SetTo.mk (by simp))))) hb2
            have L2 : Bk w2 w.heap.size 29 #[.int .i64 l.id, .int .i64 l.ticks, .int .i64 l.start.x, .int .i64 l.start.y, .slice A l.walls.length c, .slice A' l.gates.length c', .int .i64 l.fin.lo.x, .int .i64 l.fin.lo.y, .int .i64 l.fin.hi.x, .int .i64 l.fin.hi.y, .int .i64 l.bans] := Bk.later (by (repeat (first | (with_reducible assumption) | (with_reducible exact Bk.new _ _ _ (by simp; done)) | (with_reducible refine Bk.alloc ?_ _) | (with_reducible refine Bk.drew ?_) | (with_reducible refine Bk.drewN ?_ _) | (with_reducible apply Bk.set') | (with_reducible refine Bk.far ?_ (by first | omega | (simp; done) | (simp; omega)) _) | (with_reducible refine Bk.later ?_ (by assumption)) | (with_reducible refine Bk.grown ?_ (by assumption) (by first | omega | (simp; done) | (simp; omega))) | (exact SetTo.mk (by with_reducible rfl)) | (exact SetTo.mk (by simp))))) hb2
            have B2 : Below w.heap.size w w2 := by (repeat (first | (with_reducible assumption) | (with_reducible exact Below.refl _ _) | (with_reducible refine below_alloc ?_ _) | (with_reducible refine below_setCell ?_ ?_ _; (simp <;> omega)) | (with_reducible refine below_drew ?_) | (with_reducible refine below_drewN ?_ _) | (with_reducible refine below_after ?_ (by assumption))))
            clear hb2 l0 l1 l2 l3 l4 l5 l6 l7 l8 l9 l10 lf q0 q1 q2 hL hb
            obtain ⟨⟨x0, x1, x2⟩, xf⟩ := X2.c3
            cases hFo : folB l S ⟨xs, xp, false⟩
            · have hbad : Hid (badAt l ins k = true) := Lib.hid (by rw [HF.out, hFo]; rfl)
              go_wp2
              go_ret
              exact ⟨ret_int (legal_at hlt HG.out hbad.out).symm, by (repeat (first | (with_reducible assumption) | (with_reducible exact Below.refl _ _) | (with_reducible refine below_alloc ?_ _) | (with_reducible refine below_setCell ?_ ?_ _; (simp <;> omega)) | (with_reducible refine below_drew ?_) | (with_reducible refine below_drewN ?_ _) | (with_reducible refine below_after ?_ (by assumption))))⟩
            · have hbad : Hid (badAt l ins k = false) := Lib.hid (by rw [HF.out, hFo]; rfl)
              go_wp2
              go_roundw
              case rel => exact ⟨k + 1, by omega, by go_num, by rw [HP.out]; simp, by rw [HSt.out], good_succ HG.out hbad.out, L2, B2⟩
              case measure => simp [intOf]; omega
          · have hP2 : P' = P + 1 := by rw [hP']; simp
            have hB4 : P + 1 ≤ 3 := by omega
            clear hP' hP2 hP'e hB3
            go_wp2_with fail
            refine (implFollows_any l S ⟨xs, xp, true⟩ _ _ _ _ _ h0 h1 hst0 hst1).mono ?_
            rintro e w2 ⟨rfl, hb2⟩
            have X2 : Bk w2 wr.heap.size 33 #[.int .i64 xs, .int .i64 xp, .bool true] := Bk.later (by (repeat (first | (with_reducible assumption) | (with_reducible exact Bk.new _ _ _ (by simp; done)) | (with_reducible refine Bk.alloc ?_ _) | (with_reducible refine Bk.drew ?_) | (with_reducible refine Bk.drewN ?_ _) | (with_reducible apply Bk.set') | (with_reducible refine Bk.far ?_ (by first | omega | (simp; done) | (simp; omega)) _) | (with_reducible refine Bk.later ?_ (by assumption)) | (with_reducible refine Bk.grown ?_ (by assumption) (by first | omega | (simp; done) | (simp; omega))) | (exact SetTo.mk (by with_reducible rfl)) | (exact SetTo.mk (by simp))))) hb2
            have L2 : Bk w2 w.heap.size 29 #[.int .i64 l.id, .int .i64 l.ticks, .int .i64 l.start.x, .int .i64 l.start.y, .slice A l.walls.length c, .slice A' l.gates.length c', .int .i64 l.fin.lo.x, .int .i64 l.fin.lo.y, .int .i64 l.fin.hi.x, .int .i64 l.fin.hi.y, .int .i64 l.bans] := Bk.later (by (repeat (first | (with_reducible assumption) | (with_reducible exact Bk.new _ _ _ (by simp; done)) | (with_reducible refine Bk.alloc ?_ _) | (with_reducible refine Bk.drew ?_) | (with_reducible refine Bk.drewN ?_ _) | (with_reducible apply Bk.set') | (with_reducible refine Bk.far ?_ (by first | omega | (simp; done) | (simp; omega)) _) | (with_reducible refine Bk.later ?_ (by assumption)) | (with_reducible refine Bk.grown ?_ (by assumption) (by first | omega | (simp; done) | (simp; omega))) | (exact SetTo.mk (by with_reducible rfl)) | (exact SetTo.mk (by simp))))) hb2
            have B2 : Below w.heap.size w w2 := by (repeat (first | (with_reducible assumption) | (with_reducible exact Below.refl _ _) | (with_reducible refine below_alloc ?_ _) | (with_reducible refine below_setCell ?_ ?_ _; (simp <;> omega)) | (with_reducible refine below_drew ?_) | (with_reducible refine below_drewN ?_ _) | (with_reducible refine below_after ?_ (by assumption))))
            clear hb2 l0 l1 l2 l3 l4 l5 l6 l7 l8 l9 l10 lf q0 q1 q2 hL hb
            obtain ⟨⟨x0, x1, x2⟩, xf⟩ := X2.c3
            cases hFo : folB l S ⟨xs, xp, true⟩
            · have hbad : Hid (badAt l ins k = true) := Lib.hid (by rw [HF.out, hFo]; rfl)
              go_wp2
              go_ret
              exact ⟨ret_int (legal_at hlt HG.out hbad.out).symm, by (repeat (first | (with_reducible assumption) | (with_reducible exact Below.refl _ _) | (with_reducible refine below_alloc ?_ _) | (with_reducible refine below_setCell ?_ ?_ _; (simp <;> omega)) | (with_reducible refine below_drew ?_) | (with_reducible refine below_drewN ?_ _) | (with_reducible refine below_after ?_ (by assumption))))⟩
            · have hbad : Hid (badAt l ins k = false) := Lib.hid (by rw [HF.out, hFo]; rfl)
              go_wp2
              go_roundw
              case rel => exact ⟨k + 1, by omega, by go_num, by rw [HP.out]; simp, by rw [HSt.out], good_succ HG.out hbad.out, L2, B2⟩
              case measure => simp [intOf]; omega
    · have hke : k = ins.length := by omega
      have HG := Lib.hid hgood
      clear hgood hs
      go_wp2
      go_ret
      exact ⟨ret_int (legal_none (by rw [← hke]; exact HG.out)).symm, hb⟩
end Go.Proofs.Ytmfhfebakdkkdaa
