/- The reference's RunPath. (Round B) -/
import Derived.Test.YtmfhfebakdkkdaaZImpB
import Derived.Test.YtmfhfebakdkkdaaSpecM
namespace Go.Proofs.Ytmfhfebakdkkdaa
open Go.ChangeShapes Go.WideShapes Go.ChangeAt Go.RowKit
theorem ownV_nil (w : World) (B N : Nat) (T : TypeId) (hB : B ≤ w.heap.size) (hN : w.heap.size = N) : Own (w.alloc (.cells #[] T)) B T 2 encV2 (.slice (some ⟨N, 0, none⟩) 0 0) [] :=
  hN ▸ World.ownsRow_lit (base := B) (size := 2) w #[] 0 hB (by decide) rfl
theorem stAt (w : World) (s : St) : (Instr.field 31 (.agg #[.int .i64 s.t, .int .i64 s.p.x, .int .i64 s.p.y, .int .i64 s.f.x, .int .i64 s.f.y, .int .i64 s.d, .int .i64 s.g, .bool s.dn, .bool s.ov]) 1).run Try.prog w = .ok (.agg #[.int .i64 s.p.x, .int .i64 s.p.y]) w := by kernel_rfl
set_option maxRecDepth 100000 in
set_option maxHeartbeats 1000000 in
theorem specRunPath_any (l : Lev) (ins : List Inp) (A A' A2 : Option Addr) (c c' c2 : Nat) (w : World) (h : Sl w 4 encBx A l.walls.length l.walls) (hg : Sl w 4 encBx A' l.gates.length l.gates) (hs : Sl w 3 encInp A2 ins.length ins)
    (hn : (l.walls.length : Nat) ≤ 9223372036854775807) (hn' : (l.gates.length : Nat) ≤ 9223372036854775807) (hni : ins.length ≤ 9000000000000000000) : Calls Try.prog 48 #[.agg #[.int .i64 l.id, .int .i64 l.ticks, .int .i64 l.start.x, .int .i64 l.start.y, .slice A l.walls.length c, .slice A' l.gates.length c', .int .i64 l.fin.lo.x, .int .i64 l.fin.lo.y, .int .i64 l.fin.hi.x, .int .i64 l.fin.hi.y, .int .i64 l.bans], .slice A2 ins.length c2] w (RetOwn 24 2 encV2 (pathR l ins) w) := by
  cases hok : runOk l ins
  · have hR : Hid (pathR l ins = []) := Lib.hid (by unfold pathR; rw [hok]; rfl)
    rw [hR.out]
    go_enter Try.func48, Try.ntmps48
    go_wp2
    go_loopw [5, 6] (fun v i wr => i = .int .i64 0 ∧ Own wr w.heap.size 24 2 encV2 v [] ∧ v = .slice (some ⟨w.heap.size + 1, 0, none⟩) 0 0 ∧ Bk wr w.heap.size 29 #[.int .i64 l.id, .int .i64 l.ticks, .int .i64 l.start.x, .int .i64 l.start.y, .slice A l.walls.length c, .slice A' l.gates.length c', .int .i64 l.fin.lo.x, .int .i64 l.fin.lo.y, .int .i64 l.fin.hi.x, .int .i64 l.fin.hi.y, .int .i64 l.bans] ∧ Below w.heap.size w wr) (fun _ i _ => 0)
    case atStart => exact ⟨rfl, ownV_nil _ _ _ _ (by simp) (by simp), rfl, by (repeat (first | (with_reducible assumption) | (with_reducible exact Bk.new _ _ _ (by simp; done)) | (with_reducible refine Bk.alloc ?_ _) | (with_reducible refine Bk.drew ?_) | (with_reducible refine Bk.drewN ?_ _) | (with_reducible apply Bk.set') | (with_reducible refine Bk.far ?_ (by first | omega | (simp; done) | (simp; omega)) _) | (with_reducible refine Bk.later ?_ (by assumption)) | (with_reducible refine Bk.grown ?_ (by assumption) (by first | omega | (simp; done) | (simp; omega))) | (exact SetTo.mk (by with_reducible rfl)) | (exact SetTo.mk (by simp)))), by (repeat (first | (with_reducible exact Below.refl _ _) | (with_reducible refine below_alloc ?_ _) | (with_reducible refine below_setCell ?_ ?_ _; (simp <;> omega)) | (with_reducible refine below_drew ?_) | (with_reducible refine below_drewN ?_ _) | (with_reducible refine below_after ?_ (by assumption))))⟩
    case round =>
      obtain ⟨rfl, ho, rfl, hB, hb⟩ := hrel
      obtain ⟨⟨l0, l1, l2, l3, l4, l5, l6, l7, l8, l9, l10⟩, lf⟩ := hB.c11
      go_wp2_with fail
      refine (l21Ok_any l ins _ _ _ _ _ _ _ (h.below (by (repeat (first | (with_reducible exact Below.refl _ _) | (with_reducible refine below_alloc ?_ _) | (with_reducible refine below_setCell ?_ ?_ _; (simp <;> omega)) | (with_reducible refine below_drew ?_) | (with_reducible refine below_drewN ?_ _) | (with_reducible refine below_after ?_ (by assumption)))))) (hg.below (by (repeat (first | (with_reducible exact Below.refl _ _) | (with_reducible refine below_alloc ?_ _) | (with_reducible refine below_setCell ?_ ?_ _; (simp <;> omega)) | (with_reducible refine below_drew ?_) | (with_reducible refine below_drewN ?_ _) | (with_reducible refine below_after ?_ (by assumption)))))) (hs.below (by (repeat (first | (with_reducible exact Below.refl _ _) | (with_reducible refine below_alloc ?_ _) | (with_reducible refine below_setCell ?_ ?_ _; (simp <;> omega)) | (with_reducible refine below_drew ?_) | (with_reducible refine below_drewN ?_ _) | (with_reducible refine below_after ?_ (by assumption)))))) hn hn' (by omega)).mono ?_
      rintro e w1 ⟨rfl, hb1⟩
      have ho1 := ho.later hb1
      go_wp2
      exact bodyPost_ret (v := .slice (some ⟨w.heap.size + 1, 0, none⟩) 0 0) (by simp [results, Try.results48, go_sem]) rfl ⟨some ⟨w.heap.size + 1, 0, none⟩, 0, rfl, Nat.le_refl _, ho1, by (repeat (first | (with_reducible exact Below.refl _ _) | (with_reducible refine below_alloc ?_ _) | (with_reducible refine below_setCell ?_ ?_ _; (simp <;> omega)) | (with_reducible refine below_drew ?_) | (with_reducible refine below_drewN ?_ _) | (with_reducible refine below_after ?_ (by assumption))))⟩
  · obtain ⟨hL, hl60, _, _, hx⟩ := runOk_bd hok
    have hR : Hid (pathR l ins = pathTo l ins (ins.length + 1)) := Lib.hid (by unfold pathR; rw [hok]; rfl)
    rw [hR.out]
    have Hok := Lib.hid hok
    clear hok
    obtain ⟨i0, hi, hz0, hz1, hz2⟩ := info_parts Try.infoVec
    go_enter Try.func48, Try.ntmps48
    go_wp2
    go_loopw [5, 6] (fun v i wr => ∃ k : Nat, k ≤ ins.length + 1 ∧ i = .int .i64 k ∧ Own wr (w.heap.size + 1) 24 2 encV2 v (pathTo l ins k) ∧ Bk wr w.heap.size 29 #[.int .i64 l.id, .int .i64 l.ticks, .int .i64 l.start.x, .int .i64 l.start.y, .slice A l.walls.length c, .slice A' l.gates.length c', .int .i64 l.fin.lo.x, .int .i64 l.fin.lo.y, .int .i64 l.fin.hi.x, .int .i64 l.fin.hi.y, .int .i64 l.bans] ∧ Below w.heap.size w wr) (fun _ i _ => ins.length + 2 - (intOf i).toNat)
    case atStart => exact ⟨0, Nat.zero_le _, rfl, ownV_nil _ _ _ _ (by simp) (by simp), by (repeat (first | (with_reducible assumption) | (with_reducible exact Bk.new _ _ _ (by simp; done)) | (with_reducible refine Bk.alloc ?_ _) | (with_reducible refine Bk.drew ?_) | (with_reducible refine Bk.drewN ?_ _) | (with_reducible apply Bk.set') | (with_reducible refine Bk.far ?_ (by first | omega | (simp; done) | (simp; omega)) _) | (with_reducible refine Bk.later ?_ (by assumption)) | (with_reducible refine Bk.grown ?_ (by assumption) (by first | omega | (simp; done) | (simp; omega))) | (exact SetTo.mk (by with_reducible rfl)) | (exact SetTo.mk (by simp)))), by (repeat (first | (with_reducible exact Below.refl _ _) | (with_reducible refine below_alloc ?_ _) | (with_reducible refine below_setCell ?_ ?_ _; (simp <;> omega)) | (with_reducible refine below_drew ?_) | (with_reducible refine below_drewN ?_ _) | (with_reducible refine below_after ?_ (by assumption))))⟩
    case round =>
      obtain ⟨k, hk, rfl, ho, hB, hb⟩ := hrel
      have hkl : (pathTo l ins k).length ≤ 61 := by rw [pathTo_len]; omega
      obtain ⟨⟨l0, l1, l2, l3, l4, l5, l6, l7, l8, l9, l10⟩, lf⟩ := hB.c11
      by_cases h5 : (k : Int) ≤ (ins.length : Int)
      · have hml : k ≤ ins.length := by omega
        have HS := Lib.hid (pathTo_succ l ins k)
        go_wp2_with fail
        refine (l21Ok_any l ins _ _ _ _ _ _ _ (h.below (by (repeat (first | (with_reducible exact Below.refl _ _) | (with_reducible refine below_alloc ?_ _) | (with_reducible refine below_setCell ?_ ?_ _; (simp <;> omega)) | (with_reducible refine below_drew ?_) | (with_reducible refine below_drewN ?_ _) | (with_reducible refine below_after ?_ (by assumption)))))) (hg.below (by (repeat (first | (with_reducible exact Below.refl _ _) | (with_reducible refine below_alloc ?_ _) | (with_reducible refine below_setCell ?_ ?_ _; (simp <;> omega)) | (with_reducible refine below_drew ?_) | (with_reducible refine below_drewN ?_ _) | (with_reducible refine below_after ?_ (by assumption)))))) (hs.below (by (repeat (first | (with_reducible exact Below.refl _ _) | (with_reducible refine below_alloc ?_ _) | (with_reducible refine below_setCell ?_ ?_ _; (simp <;> omega)) | (with_reducible refine below_drew ?_) | (with_reducible refine below_drewN ?_ _) | (with_reducible refine below_after ?_ (by assumption)))))) hn hn' (by omega)).mono ?_
        rw [Hok.out]
        rintro e w1 ⟨rfl, hb1⟩
        have hB1 := hB.later hb1
        have ho1 := ho.later hb1
        have hd1 : Below w.heap.size w w1 := by (repeat (first | (with_reducible exact Below.refl _ _) | (with_reducible refine below_alloc ?_ _) | (with_reducible refine below_setCell ?_ ?_ _; (simp <;> omega)) | (with_reducible refine below_drew ?_) | (with_reducible refine below_drewN ?_ _) | (with_reducible refine below_after ?_ (by assumption))))
        clear hb1 hB ho hb l0 l1 l2 l3 l4 l5 l6 l7 l8 l9 l10 lf
        obtain ⟨⟨l0, l1, l2, l3, l4, l5, l6, l7, l8, l9, l10⟩, lf⟩ := hB1.c11
        go_wp2_with fail
        refine (l21To_any l ins k _ _ _ _ _ _ _ (h.below (by (repeat (first | (with_reducible exact Below.refl _ _) | (with_reducible refine below_alloc ?_ _) | (with_reducible refine below_setCell ?_ ?_ _; (simp <;> omega)) | (with_reducible refine below_drew ?_) | (with_reducible refine below_drewN ?_ _) | (with_reducible refine below_after ?_ (by assumption)))))) (hg.below (by (repeat (first | (with_reducible exact Below.refl _ _) | (with_reducible refine below_alloc ?_ _) | (with_reducible refine below_setCell ?_ ?_ _; (simp <;> omega)) | (with_reducible refine below_drew ?_) | (with_reducible refine below_drewN ?_ _) | (with_reducible refine below_after ?_ (by assumption)))))) (hs.below (by (repeat (first | (with_reducible exact Below.refl _ _) | (with_reducible refine below_alloc ?_ _) | (with_reducible refine below_setCell ?_ ?_ _; (simp <;> omega)) | (with_reducible refine below_drew ?_) | (with_reducible refine below_drewN ?_ _) | (with_reducible refine below_after ?_ (by assumption)))))) hL hml (by omega) hx).mono ?_
        rintro e w2 ⟨rfl, hb2⟩
        have hB2 := hB1.later hb2
        have ho2 := ho1.later hb2
        have hd2 : Below w.heap.size w w2 := by (repeat (first | (with_reducible exact Below.refl _ _) | (with_reducible refine below_alloc ?_ _) | (with_reducible refine below_setCell ?_ ?_ _; (simp <;> omega)) | (with_reducible refine below_drew ?_) | (with_reducible refine below_drewN ?_ _) | (with_reducible refine below_after ?_ (by assumption))))
        clear hb2 hB1 ho1 hd1 l0 l1 l2 l3 l4 l5 l6 l7 l8 l9 l10 lf
        have hx2 := hB2.lt
        have hgt := ho2.lt
        generalize hS : runTo l ins k = S at *
        clear hS
        have hfl := stAt
        go_wp2_with (at_builtin; refine wp_appS rfl _ _ 64 rfl (w.heap.size + 1) 24 i0 (.agg #[.int .i64 0, .int .i64 0]) 2 16 Try.underlying64 hi hz0 hz1 hz2 rfl (by decide) encV2_len one_v2 _ _ [S.p] rfl ((ho2.alloc _)) _ 1 1 rfl (Sl.oneAt _ S.p _ _ (by rfl) (by simp)) (by intro e; cases e) (by unfold maxLen; omega) (by omega) (by simp; omega) ?_; intro v' w4 ho4 hg4)
        case roundEnd =>
          have hB4 : Bk w4 w.heap.size 29 #[.int .i64 l.id, .int .i64 l.ticks, .int .i64 l.start.x, .int .i64 l.start.y, .slice A l.walls.length c, .slice A' l.gates.length c', .int .i64 l.fin.lo.x, .int .i64 l.fin.lo.y, .int .i64 l.fin.hi.x, .int .i64 l.fin.hi.y, .int .i64 l.bans] := (hB2.alloc _).grown hg4 (by intro e; have := (hgt _ e.symm).1; omega)
          have hd4 : Below w.heap.size w w4 := (below_alloc hd2 _).grown hg4 (by simp; omega) (by intro g e; have := (hgt _ e).1; omega)
          have HS2 : pathTo l ins (k + 1) = pathTo l ins k ++ [S.p] := HS.out
          rw [← HS2] at ho4
          go_roundw
          case rel => exact ⟨k + 1, by omega, by go_num, ho4, hB4, hd4⟩
          case measure => simp [intOf]; omega
      · have hkk : k = ins.length + 1 := by omega
        obtain ⟨A1, c1, rfl, hc1, _⟩ := ho.form
        subst hkk
        have hlen := pathTo_len l ins (ins.length + 1)
        clear h hg hs
        go_wp2
        exact bodyPost_ret (v := .slice A1 (pathTo l ins (ins.length + 1)).length c1) (by simp [results, Try.results48, go_sem, hlen]) rfl ⟨A1, c1, rfl, hc1, ho.mono (by omega), hb⟩
end Go.Proofs.Ytmfhfebakdkkdaa
