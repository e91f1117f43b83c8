/- The reference's l12Legal, LevelValid, InputsLegal. -/
import Derived.Test.YtmfhfebakdkkdaaSpecF
namespace Go.Proofs.Ytmfhfebakdkkdaa
open Go.ChangeShapes Go.WideShapes Go.ChangeAt Go.RowKit
set_option maxRecDepth 100000 in
set_option maxHeartbeats 2000000 in
theorem l12Legal_any (l : Lev) (ins : List Inp) (A A' A2 : Option Addr) (c c' c2 : Nat) (w : World) (hs : Sl w 3 encInp A2 ins.length ins) (hn : (ins.length : Nat) ≤ 9223372036854775807) (h0 : 0 ≤ l.bans) (h1 : l.bans ≤ 1000) :
    Calls Try.prog 100 #[.agg #[.int .i64 l.id, .int .i64 l.ticks, .int .i64 l.start.x, .int .i64 l.start.y, .slice A l.walls.length c, .slice A' l.gates.length c', .int .i64 l.fin.lo.x, .int .i64 l.fin.lo.y, .int .i64 l.fin.hi.x, .int .i64 l.fin.hi.y, .int .i64 l.bans], .slice A2 ins.length c2] w fun e w' => e = .returned (.int .i64 (legal l ins)) ∧ Below w.heap.size w w' := by
  go_enter Try.func100, Try.ntmps100
  go_wp2
  go_loopw [6, 7] (fun p i wr => ∃ (k : Nat) (bp : Int) (bz : Bool), k ≤ ins.length ∧ i = .int .i64 k ∧ p = .int .i64 (pausesOf (ins.take k)) ∧ (∀ j, j < k → badAt l ins j = false) ∧ Bk wr w.heap.size 29 #[.int .i64 l.id, .int .i64 l.ticks, .int .i64 l.start.x, .int .i64 l.start.y, .slice A l.walls.length c, .slice A' l.gates.length c', .int .i64 l.fin.lo.x, .int .i64 l.fin.lo.y, .int .i64 l.fin.hi.x, .int .i64 l.fin.hi.y, .int .i64 l.bans] ∧ Bk wr (w.heap.size + 1) 33 #[.int .i64 (steerOf (ins.take k)), .int .i64 bp, .bool bz] ∧ Below w.heap.size w wr) (fun _ i _ => ins.length - (intOf i).toNat)
  case atStart => exact ⟨0, 0, false, Nat.zero_le _, rfl, rfl, fun j hj => by omega, by (repeat (first | (with_reducible assumption) | (with_reducible exact Bk.new _ _ _ (by simp; done)) | (with_reducible refine Bk.alloc ?_ _) | (with_reducible refine Bk.drew ?_) | (with_reducible refine Bk.drewN ?_ _) | (with_reducible apply Bk.set') | (with_reducible refine Bk.far ?_ (by first | omega | (simp; done) | (simp; omega)) _) | (with_reducible refine Bk.later ?_ (by assumption)) | (with_reducible refine Bk.grown ?_ (by assumption) (by first | omega | (simp; done) | (simp; omega))) | (exact SetTo.mk (by with_reducible rfl)) | (exact SetTo.mk (by simp)))), (by (repeat (first | (with_reducible assumption) | (with_reducible exact Bk.new _ _ _ (by simp; done)) | (with_reducible refine Bk.alloc ?_ _) | (with_reducible refine Bk.drew ?_) | (with_reducible refine Bk.drewN ?_ _) | (with_reducible apply Bk.set') | (with_reducible refine Bk.far ?_ (by first | omega | (simp; done) | (simp; omega)) _) | (with_reducible refine Bk.later ?_ (by assumption)) | (with_reducible refine Bk.grown ?_ (by assumption) (by first | omega | (simp; done) | (simp; omega))) | (exact SetTo.mk (by with_reducible rfl)) | (exact SetTo.mk (by simp)))) : Bk _ (w.heap.size + 1) 33 #[.int .i64 0, .int .i64 0, .bool false]), by (repeat (first | (with_reducible exact Below.refl _ _) | (with_reducible refine below_alloc ?_ _) | (with_reducible refine below_setCell ?_ ?_ _; (simp <;> omega)) | (with_reducible refine below_drew ?_) | (with_reducible refine below_drewN ?_ _) | (with_reducible refine below_after ?_ (by assumption))))⟩
  case round =>
    obtain ⟨k, bp, bz, hk, rfl, rfl, hgood, hL, hB, hb⟩ := hrel
    by_cases hlt : k < ins.length
    · obtain ⟨b, off, x, rfl, hbl, hx, hc⟩ := (hs.below hb).at_ hlt
      have q0 : wr.cell? ⟨b, off + k * 3, none⟩ = some (.int .i64 x.s) := hc 0 _ rfl
      have q1 : wr.cell? ⟨b, off + k * 3 + 1, none⟩ = some (.int .i64 x.p) := hc 1 _ rfl
      have q2 : wr.cell? ⟨b, off + k * 3 + 2, none⟩ = some (.bool x.z) := hc 2 _ rfl
      have HP := Lib.hid (pausesOf_succ hx)
      have HSt := Lib.hid (steerOf_succ hx)
      have HBad := Lib.hid (badAt_eq (l := l) hx)
      obtain ⟨hst0, hst1⟩ := steer_bd hgood hk
      obtain ⟨hp0, hp1⟩ := pausesOf_bd ins k
      have HG := Lib.hid hgood
      have hx9 := Lib.hid hx
      clear hgood hx hc
      generalize hPn : pausesOf (ins.take k) = P at *
      generalize hSn : steerOf (ins.take k) = S at *
      clear hPn hSn
      have zL := hL.lt
      have zB := hB.lt
      obtain ⟨⟨l0, l1, l2, l3, l4, l5, l6, l7, l8, l9, l10⟩, lf⟩ := hL.c11
      obtain ⟨⟨b0, b1, b2⟩, bf⟩ := hB.c3
      obtain ⟨xs, xp, xz⟩ := x
      simp only at q0 q1 q2 HP HSt
      obtain ⟨P', hP', hP'e⟩ : ∃ P' : Int, P' = P + (if xz then 1 else 0) ∧ (0 ≤ P' ∧ P' ≤ k + 1) := ⟨_, rfl, by split <;> omega⟩
      by_cases hA : l.ticks ≤ (k : Int)
      · have hAb : decide (l.ticks ≤ (k : Int)) = true := by simpa using hA
        have hbad : Hid (badAt l ins k = true) := Lib.hid (by rw [HBad.out, hAb]; rfl)
        cases xz
        all_goals
          go_wp2
          go_quiet (fail)
          go_wp2
          go_ret
          exact ⟨ret_int (legal_at hlt HG.out hbad.out).symm, by (repeat (first | (with_reducible exact Below.refl _ _) | (with_reducible refine below_alloc ?_ _) | (with_reducible refine below_setCell ?_ ?_ _; (simp <;> omega)) | (with_reducible refine below_drew ?_) | (with_reducible refine below_drewN ?_ _) | (with_reducible refine below_after ?_ (by assumption))))⟩
      · have hAb : decide (l.ticks ≤ (k : Int)) = false := by simpa using hA
        have hA' : (k : Int) < l.ticks := by omega
        clear hA
        by_cases hB3 : 3 < P'
        · have hbad : Hid (badAt l ins k = true) := Lib.hid (by rw [HBad.out, HP.out, hAb, ← hP', show decide (3 < P') = true by simpa using hB3]; rfl)
          cases xz
          · have hP2 : P' = P := by rw [hP']; simp
            have hBb : decide (3 < P) = true := by rw [← hP2]; simpa using hB3
            clear hP' hP2 hP'e hB3
            go_wp2
            go_quiet (fail)
            go_wp2
            go_ret
            exact ⟨ret_int (legal_at hlt HG.out hbad.out).symm, by (repeat (first | (with_reducible exact Below.refl _ _) | (with_reducible refine below_alloc ?_ _) | (with_reducible refine below_setCell ?_ ?_ _; (simp <;> omega)) | (with_reducible refine below_drew ?_) | (with_reducible refine below_drewN ?_ _) | (with_reducible refine below_after ?_ (by assumption))))⟩
          · have hP2 : P' = P + 1 := by rw [hP']; simp
            have hBb : decide (3 < P + 1) = true := by rw [← hP2]; simpa using hB3
            clear hP' hP2 hP'e hB3
            go_wp2
            go_quiet (fail)
            go_wp2
            go_ret
            exact ⟨ret_int (legal_at hlt HG.out hbad.out).symm, by (repeat (first | (with_reducible exact Below.refl _ _) | (with_reducible refine below_alloc ?_ _) | (with_reducible refine below_setCell ?_ ?_ _; (simp <;> omega)) | (with_reducible refine below_drew ?_) | (with_reducible refine below_drewN ?_ _) | (with_reducible refine below_after ?_ (by assumption))))⟩
        · cases xz
          all_goals
            have HF : Hid (badAt l ins k = !folB l S ⟨xs, xp, _⟩) := Lib.hid (by rw [HBad.out, HP.out, hAb, ← hP', show decide (3 < P') = false by simpa using hB3]; rfl)
            have HP1 := Lib.hid hP'
          · have hP2 : P' = P := by rw [hP']; simp
            have hBb : decide (3 < P) = false := by rw [← hP2]; simpa using hB3
            have hB4 : P ≤ 3 := by omega
            clear hP' hP2 hP'e hB3
            go_wp2
            go_still_tail 15, (by kernel_rfl)
            change wpList _ _ _ _ _ wr.drew
            go_wp2_with fail
            refine (l12Follows_any l ⟨S, bp, bz⟩ ⟨xs, xp, false⟩ _ _ _ _ _ h0 h1 ⟨hst0, hst1⟩).mono ?_
            rintro e w1 ⟨rfl, hb1⟩
            have hL1 : Bk w1 w.heap.size 29 #[.int .i64 l.id, .int .i64 l.ticks, .int .i64 l.start.x, .int .i64 l.start.y, .slice A l.walls.length c, .slice A' l.gates.length c', .int .i64 l.fin.lo.x, .int .i64 l.fin.lo.y, .int .i64 l.fin.hi.x, .int .i64 l.fin.hi.y, .int .i64 l.bans] := by (repeat (first | (with_reducible assumption) | (with_reducible exact Bk.new _ _ _ (by simp; done)) | (with_reducible refine Bk.alloc ?_ _) | (with_reducible refine Bk.drew ?_) | (with_reducible refine Bk.drewN ?_ _) | (with_reducible apply Bk.set') | (with_reducible refine Bk.far ?_ (by first | omega | (simp; done) | (simp; omega)) _) | (with_reducible refine Bk.later ?_ (by assumption)) | (with_reducible refine Bk.grown ?_ (by assumption) (by first | omega | (simp; done) | (simp; omega))) | (exact SetTo.mk (by with_reducible rfl)) | (exact SetTo.mk (by simp))))
            have hB1 : Bk w1 (w.heap.size + 1) 33 #[.int .i64 S, .int .i64 bp, .bool bz] := by (repeat (first | (with_reducible assumption) | (with_reducible exact Bk.new _ _ _ (by simp; done)) | (with_reducible refine Bk.alloc ?_ _) | (with_reducible refine Bk.drew ?_) | (with_reducible refine Bk.drewN ?_ _) | (with_reducible apply Bk.set') | (with_reducible refine Bk.far ?_ (by first | omega | (simp; done) | (simp; omega)) _) | (with_reducible refine Bk.later ?_ (by assumption)) | (with_reducible refine Bk.grown ?_ (by assumption) (by first | omega | (simp; done) | (simp; omega))) | (exact SetTo.mk (by with_reducible rfl)) | (exact SetTo.mk (by simp))))
            have hd1 : Below w.heap.size w w1 := by (repeat (first | (with_reducible exact Below.refl _ _) | (with_reducible refine below_alloc ?_ _) | (with_reducible refine below_setCell ?_ ?_ _; (simp <;> omega)) | (with_reducible refine below_drew ?_) | (with_reducible refine below_drewN ?_ _) | (with_reducible refine below_after ?_ (by assumption))))
            have r0 : w1.cell? ⟨b, off + k * 3, none⟩ = some (.int .i64 xs) := (hb1.cell (p := ⟨b, off + k * 3, none⟩) hbl).trans q0
            have r1 : w1.cell? ⟨b, off + k * 3 + 1, none⟩ = some (.int .i64 xp) := (hb1.cell (p := ⟨b, off + k * 3 + 1, none⟩) hbl).trans q1
            have r2 : w1.cell? ⟨b, off + k * 3 + 2, none⟩ = some (.bool false) := (hb1.cell (p := ⟨b, off + k * 3 + 2, none⟩) hbl).trans q2
            have hbl1 : b < w1.heap.size := Nat.lt_of_lt_of_le hbl hb1.size
            clear hb1 hL hB zL zB hb l0 l1 l2 l3 l4 l5 l6 l7 l8 l9 l10 lf b0 b1 b2 bf q0 q1 q2 hbl
            obtain ⟨⟨b0, b1, b2⟩, bf⟩ := hB1.c3
            cases hFo : folB l S ⟨xs, xp, false⟩
            · have hbad : Hid (badAt l ins k = true) := Lib.hid (by rw [HF.out, hFo]; rfl)
              go_wp2
              go_ret
              exact ⟨ret_int (legal_at hlt HG.out hbad.out).symm, by (repeat (first | (with_reducible exact Below.refl _ _) | (with_reducible refine below_alloc ?_ _) | (with_reducible refine below_setCell ?_ ?_ _; (simp <;> omega)) | (with_reducible refine below_drew ?_) | (with_reducible refine below_drewN ?_ _) | (with_reducible refine below_after ?_ (by assumption))))⟩
            · have hbad : Hid (badAt l ins k = false) := Lib.hid (by rw [HF.out, hFo]; rfl)
              go_wp2
              case roundEnd =>
                go_roundw
                case rel => exact ⟨k + 1, xp, false, by omega, by go_num, by rw [HP.out]; simp, good_succ HG.out hbad.out, by (repeat (first | (with_reducible assumption) | (with_reducible exact Bk.new _ _ _ (by simp; done)) | (with_reducible refine Bk.alloc ?_ _) | (with_reducible refine Bk.drew ?_) | (with_reducible refine Bk.drewN ?_ _) | (with_reducible apply Bk.set') | (with_reducible refine Bk.far ?_ (by first | omega | (simp; done) | (simp; omega)) _) | (with_reducible refine Bk.later ?_ (by assumption)) | (with_reducible refine Bk.grown ?_ (by assumption) (by first | omega | (simp; done) | (simp; omega))) | (exact SetTo.mk (by with_reducible rfl)) | (exact SetTo.mk (by simp)))), by rw [HSt.out]; (repeat (first | (with_reducible assumption) | (with_reducible exact Bk.new _ _ _ (by simp; done)) | (with_reducible refine Bk.alloc ?_ _) | (with_reducible refine Bk.drew ?_) | (with_reducible refine Bk.drewN ?_ _) | (with_reducible apply Bk.set') | (with_reducible refine Bk.far ?_ (by first | omega | (simp; done) | (simp; omega)) _) | (with_reducible refine Bk.later ?_ (by assumption)) | (with_reducible refine Bk.grown ?_ (by assumption) (by first | omega | (simp; done) | (simp; omega))) | (exact SetTo.mk (by with_reducible rfl)) | (exact SetTo.mk (by simp)))), by (repeat (first | (with_reducible exact Below.refl _ _) | (with_reducible refine below_alloc ?_ _) | (with_reducible refine below_setCell ?_ ?_ _; (simp <;> omega)) | (with_reducible refine below_drew ?_) | (with_reducible refine below_drewN ?_ _) | (with_reducible refine below_after ?_ (by assumption))))⟩
                case measure => simp [intOf]; omega
          · have hP2 : P' = P + 1 := by rw [hP']; simp
            have hBb : decide (3 < P + 1) = false := by rw [← hP2]; simpa using hB3
            have hB4 : P + 1 ≤ 3 := by omega
            clear hP' hP2 hP'e hB3
            go_wp2
            go_still_tail 15, (by kernel_rfl)
            change wpList _ _ _ _ _ wr.drew
            go_wp2_with fail
            refine (l12Follows_any l ⟨S, bp, bz⟩ ⟨xs, xp, true⟩ _ _ _ _ _ h0 h1 ⟨hst0, hst1⟩).mono ?_
            rintro e w1 ⟨rfl, hb1⟩
            have hL1 : Bk w1 w.heap.size 29 #[.int .i64 l.id, .int .i64 l.ticks, .int .i64 l.start.x, .int .i64 l.start.y, .slice A l.walls.length c, .slice A' l.gates.length c', .int .i64 l.fin.lo.x, .int .i64 l.fin.lo.y, .int .i64 l.fin.hi.x, .int .i64 l.fin.hi.y, .int .i64 l.bans] := by (repeat (first | (with_reducible assumption) | (with_reducible exact Bk.new _ _ _ (by simp; done)) | (with_reducible refine Bk.alloc ?_ _) | (with_reducible refine Bk.drew ?_) | (with_reducible refine Bk.drewN ?_ _) | (with_reducible apply Bk.set') | (with_reducible refine Bk.far ?_ (by first | omega | (simp; done) | (simp; omega)) _) | (with_reducible refine Bk.later ?_ (by assumption)) | (with_reducible refine Bk.grown ?_ (by assumption) (by first | omega | (simp; done) | (simp; omega))) | (exact SetTo.mk (by with_reducible rfl)) | (exact SetTo.mk (by simp))))
            have hB1 : Bk w1 (w.heap.size + 1) 33 #[.int .i64 S, .int .i64 bp, .bool bz] := by (repeat (first | (with_reducible assumption) | (with_reducible exact Bk.new _ _ _ (by simp; done)) | (with_reducible refine Bk.alloc ?_ _) | (with_reducible refine Bk.drew ?_) | (with_reducible refine Bk.drewN ?_ _) | (with_reducible apply Bk.set') | (with_reducible refine Bk.far ?_ (by first | omega | (simp; done) | (simp; omega)) _) | (with_reducible refine Bk.later ?_ (by assumption)) | (with_reducible refine Bk.grown ?_ (by assumption) (by first | omega | (simp; done) | (simp; omega))) | (exact SetTo.mk (by with_reducible rfl)) | (exact SetTo.mk (by simp))))
            have hd1 : Below w.heap.size w w1 := by (repeat (first | (with_reducible exact Below.refl _ _) | (with_reducible refine below_alloc ?_ _) | (with_reducible refine below_setCell ?_ ?_ _; (simp <;> omega)) | (with_reducible refine below_drew ?_) | (with_reducible refine below_drewN ?_ _) | (with_reducible refine below_after ?_ (by assumption))))
            have r0 : w1.cell? ⟨b, off + k * 3, none⟩ = some (.int .i64 xs) := (hb1.cell (p := ⟨b, off + k * 3, none⟩) hbl).trans q0
            have r1 : w1.cell? ⟨b, off + k * 3 + 1, none⟩ = some (.int .i64 xp) := (hb1.cell (p := ⟨b, off + k * 3 + 1, none⟩) hbl).trans q1
            have r2 : w1.cell? ⟨b, off + k * 3 + 2, none⟩ = some (.bool true) := (hb1.cell (p := ⟨b, off + k * 3 + 2, none⟩) hbl).trans q2
            have hbl1 : b < w1.heap.size := Nat.lt_of_lt_of_le hbl hb1.size
            clear hb1 hL hB zL zB hb l0 l1 l2 l3 l4 l5 l6 l7 l8 l9 l10 lf b0 b1 b2 bf q0 q1 q2 hbl
            obtain ⟨⟨b0, b1, b2⟩, bf⟩ := hB1.c3
            cases hFo : folB l S ⟨xs, xp, true⟩
            · have hbad : Hid (badAt l ins k = true) := Lib.hid (by rw [HF.out, hFo]; rfl)
              go_wp2
              go_ret
              exact ⟨ret_int (legal_at hlt HG.out hbad.out).symm, by (repeat (first | (with_reducible exact Below.refl _ _) | (with_reducible refine below_alloc ?_ _) | (with_reducible refine below_setCell ?_ ?_ _; (simp <;> omega)) | (with_reducible refine below_drew ?_) | (with_reducible refine below_drewN ?_ _) | (with_reducible refine below_after ?_ (by assumption))))⟩
            · have hbad : Hid (badAt l ins k = false) := Lib.hid (by rw [HF.out, hFo]; rfl)
              go_wp2
              case roundEnd =>
                go_roundw
                case rel => exact ⟨k + 1, xp, true, by omega, by go_num, by rw [HP.out]; simp, good_succ HG.out hbad.out, by (repeat (first | (with_reducible assumption) | (with_reducible exact Bk.new _ _ _ (by simp; done)) | (with_reducible refine Bk.alloc ?_ _) | (with_reducible refine Bk.drew ?_) | (with_reducible refine Bk.drewN ?_ _) | (with_reducible apply Bk.set') | (with_reducible refine Bk.far ?_ (by first | omega | (simp; done) | (simp; omega)) _) | (with_reducible refine Bk.later ?_ (by assumption)) | (with_reducible refine Bk.grown ?_ (by assumption) (by first | omega | (simp; done) | (simp; omega))) | (exact SetTo.mk (by with_reducible rfl)) | (exact SetTo.mk (by simp)))), by rw [HSt.out]; (repeat (first | (with_reducible assumption) | (with_reducible exact Bk.new _ _ _ (by simp; done)) | (with_reducible refine Bk.alloc ?_ _) | (with_reducible refine Bk.drew ?_) | (with_reducible refine Bk.drewN ?_ _) | (with_reducible apply Bk.set') | (with_reducible refine Bk.far ?_ (by first | omega | (simp; done) | (simp; omega)) _) | (with_reducible refine Bk.later ?_ (by assumption)) | (with_reducible refine Bk.grown ?_ (by assumption) (by first | omega | (simp; done) | (simp; omega))) | (exact SetTo.mk (by with_reducible rfl)) | (exact SetTo.mk (by simp)))), by (repeat (first | (with_reducible exact Below.refl _ _) | (with_reducible refine below_alloc ?_ _) | (with_reducible refine below_setCell ?_ ?_ _; (simp <;> omega)) | (with_reducible refine below_drew ?_) | (with_reducible refine below_drewN ?_ _) | (with_reducible refine below_after ?_ (by assumption))))⟩
                case measure => simp [intOf]; omega
    · have hke : k = ins.length := by omega
      have HG := Lib.hid hgood
      clear hgood hs
      go_wp2
      go_ret
      exact ⟨ret_int (legal_none (by rw [← hke]; exact HG.out)).symm, hb⟩
end Go.Proofs.Ytmfhfebakdkkdaa
