/- The reference's RunHashes. -/
import Derived.Test.YtkendoffknjpiaaSpecJ
namespace Go.Proofs.Ytkendoffknjpiaa
open Go.ChangeShapes Go.WideShapes Go.ChangeAt Go.RowKit
theorem sOk_stBd {l : Lev} {s : St} (h : sOk l s) (hl : l.gates.length ≤ 1000000) (t0 : 0 ≤ s.t) (t1 : s.t ≤ 1000000) : stBd s := by
  have hp := vOk_iff.1 h.p
  have hf := fOk_bd h.f
  have h0 := h.d0
  have h1 := h.d1
  have h2 := h.g0
  have h3 := h.g1
  unfold stBd int64
  omega
theorem runTo_stBd {l : Lev} {ins : List Inp} (hL : LevG l) (n : Nat) (hn : n ≤ ins.length) (h : ins.length ≤ 100000) : stBd (runTo l ins n) := by
  obtain ⟨a, b⟩ := runTo_t l ins n hn
  exact sOk_stBd (runTo_ok ins n hL.st) hL.ng a (by omega)
theorem own_nil_at (w : World) (B N : Nat) (T : TypeId) (hB : B ≤ w.heap.size) (hN : w.heap.size = N) : Own (w.alloc (.cells #[] T)) B T 1 encInt (.slice (some ⟨N, 0, none⟩) 0 0) [] := hN ▸ Own.nil_lit w B T hB
set_option maxRecDepth 100000 in
set_option maxHeartbeats 1000000 in
theorem specRunHashes_any (l : Lev) (ins : List Inp) (A A' A2 : Option Addr) (c c' c2 : Nat) (w : World) (h : Sl w 4 encBx A l.walls.length l.walls) (hg : Sl w 4 encBx A' l.gates.length l.gates) (hs : Sl w 3 encInp A2 ins.length ins)
    (hn : (l.walls.length : Nat) ≤ 9223372036854775807) (hn' : (l.gates.length : Nat) ≤ 9223372036854775807) (hni : ins.length ≤ 9000000000000000000) : Calls Try.prog 109 #[.agg #[.int .i64 l.id, .int .i64 l.ticks, .int .i64 l.start.x, .int .i64 l.start.y, .slice A l.walls.length c, .slice A' l.gates.length c', .int .i64 l.fin.lo.x, .int .i64 l.fin.lo.y, .int .i64 l.fin.hi.x, .int .i64 l.fin.hi.y, .int .i64 l.bans], .slice A2 ins.length c2] w (RetOwn 3 1 encInt (hashesR l ins) w) := by
  cases hok : runOk l ins
  · have hR : Hid (hashesR l ins = []) := Lib.hid (by unfold hashesR; rw [hok]; rfl)
    rw [hR.out]
    go_enter Try.func109, Try.ntmps109
    go_wp2
    go_loopw [5, 6] (fun v i wr => i = .int .i64 5 ∧ Own wr w.heap.size 3 1 encInt v [] ∧ v = .slice (some ⟨w.heap.size + 1, 0, none⟩) 0 0 ∧ Bk wr w.heap.size 95 #[.int .i64 l.id, .int .i64 l.ticks, .int .i64 l.start.x, .int .i64 l.start.y, .slice A l.walls.length c, .slice A' l.gates.length c', .int .i64 l.fin.lo.x, .int .i64 l.fin.lo.y, .int .i64 l.fin.hi.x, .int .i64 l.fin.hi.y, .int .i64 l.bans] ∧ Below w.heap.size w wr) (fun _ i _ => 0)
    case atStart => exact ⟨rfl, own_nil_at _ _ _ _ (by simp) (by simp), rfl, by (repeat (first | (with_reducible assumption) | (with_reducible exact Bk.new _ _ _ (by simp; done)) | (with_reducible refine Bk.alloc ?_ _) | (with_reducible refine Bk.drew ?_) | (with_reducible refine Bk.drewN ?_ _) | (with_reducible apply Bk.set') | (with_reducible refine Bk.far ?_ (by first | omega | (simp; done) | (simp; omega)) _) | (with_reducible refine Bk.later ?_ (by assumption)) | (with_reducible refine Bk.grown ?_ (by assumption) (by first | omega | (simp; done) | (simp; omega))) | (exact SetTo.mk (by with_reducible rfl)) | (exact SetTo.mk (by simp)))), by (repeat (first | (with_reducible exact Below.refl _ _) | (with_reducible refine below_alloc ?_ _) | (with_reducible refine below_setCell ?_ ?_ _; (simp <;> omega)) | (with_reducible refine below_drew ?_) | (with_reducible refine below_drewN ?_ _) | (with_reducible refine below_after ?_ (by assumption))))⟩
    case round =>
      obtain ⟨rfl, ho, rfl, hB, hb⟩ := hrel
      obtain ⟨⟨l0, l1, l2, l3, l4, l5, l6, l7, l8, l9, l10⟩, lf⟩ := hB.c11
      by_cases h5 : 5 ≤ (ins.length : Int)
      · go_wp2_with fail
        refine (l21Ok_any l ins _ _ _ _ _ _ _ (h.below (by (repeat (first | (with_reducible exact Below.refl _ _) | (with_reducible refine below_alloc ?_ _) | (with_reducible refine below_setCell ?_ ?_ _; (simp <;> omega)) | (with_reducible refine below_drew ?_) | (with_reducible refine below_drewN ?_ _) | (with_reducible refine below_after ?_ (by assumption)))))) (hg.below (by (repeat (first | (with_reducible exact Below.refl _ _) | (with_reducible refine below_alloc ?_ _) | (with_reducible refine below_setCell ?_ ?_ _; (simp <;> omega)) | (with_reducible refine below_drew ?_) | (with_reducible refine below_drewN ?_ _) | (with_reducible refine below_after ?_ (by assumption)))))) (hs.below (by (repeat (first | (with_reducible exact Below.refl _ _) | (with_reducible refine below_alloc ?_ _) | (with_reducible refine below_setCell ?_ ?_ _; (simp <;> omega)) | (with_reducible refine below_drew ?_) | (with_reducible refine below_drewN ?_ _) | (with_reducible refine below_after ?_ (by assumption)))))) hn hn' (by omega)).mono ?_
        rintro e w1 ⟨rfl, hb1⟩
        have ho1 := ho.later hb1
        go_wp2
        exact bodyPost_ret (v := .slice (some ⟨w.heap.size + 1, 0, none⟩) 0 0) (by simp [results, Try.results109, go_sem]) rfl ⟨some ⟨w.heap.size + 1, 0, none⟩, 0, rfl, Nat.le_refl _, ho1, by (repeat (first | (with_reducible exact Below.refl _ _) | (with_reducible refine below_alloc ?_ _) | (with_reducible refine below_setCell ?_ ?_ _; (simp <;> omega)) | (with_reducible refine below_drew ?_) | (with_reducible refine below_drewN ?_ _) | (with_reducible refine below_after ?_ (by assumption))))⟩
      · go_wp2
        exact bodyPost_ret (v := .slice (some ⟨w.heap.size + 1, 0, none⟩) 0 0) (by simp [results, Try.results109, go_sem]) rfl ⟨some ⟨w.heap.size + 1, 0, none⟩, 0, rfl, Nat.le_refl _, ho, by (repeat (first | (with_reducible exact Below.refl _ _) | (with_reducible refine below_alloc ?_ _) | (with_reducible refine below_setCell ?_ ?_ _; (simp <;> omega)) | (with_reducible refine below_drew ?_) | (with_reducible refine below_drewN ?_ _) | (with_reducible refine below_after ?_ (by assumption))))⟩
  · obtain ⟨hL, hl60, _, _, hx⟩ := runOk_bd hok
    have hR : Hid (hashesR l ins = hashesTo l ins (ins.length / 5)) := Lib.hid (by unfold hashesR; rw [hok]; rfl)
    rw [hR.out]
    have Hok := Lib.hid hok
    clear hok
    obtain ⟨i0, hi, hz0, hz1, hz2⟩ := info_parts Try.infoInt
    go_enter Try.func109, Try.ntmps109
    go_wp2
    go_loopw [5, 6] (fun v i wr => ∃ k m : Nat, m = 5 * (k + 1) ∧ 5 * k ≤ ins.length ∧ i = .int .i64 m ∧ Own wr (w.heap.size + 1) 3 1 encInt v (hashesTo l ins k) ∧ Bk wr w.heap.size 95 #[.int .i64 l.id, .int .i64 l.ticks, .int .i64 l.start.x, .int .i64 l.start.y, .slice A l.walls.length c, .slice A' l.gates.length c', .int .i64 l.fin.lo.x, .int .i64 l.fin.lo.y, .int .i64 l.fin.hi.x, .int .i64 l.fin.hi.y, .int .i64 l.bans] ∧ Below w.heap.size w wr) (fun _ i _ => ins.length + 5 - (intOf i).toNat)
    case atStart => exact ⟨0, 5, rfl, by omega, rfl, own_nil_at _ _ _ _ (by simp) (by simp), by (repeat (first | (with_reducible assumption) | (with_reducible exact Bk.new _ _ _ (by simp; done)) | (with_reducible refine Bk.alloc ?_ _) | (with_reducible refine Bk.drew ?_) | (with_reducible refine Bk.drewN ?_ _) | (with_reducible apply Bk.set') | (with_reducible refine Bk.far ?_ (by first | omega | (simp; done) | (simp; omega)) _) | (with_reducible refine Bk.later ?_ (by assumption)) | (with_reducible refine Bk.grown ?_ (by assumption) (by first | omega | (simp; done) | (simp; omega))) | (exact SetTo.mk (by with_reducible rfl)) | (exact SetTo.mk (by simp)))), by (repeat (first | (with_reducible exact Below.refl _ _) | (with_reducible refine below_alloc ?_ _) | (with_reducible refine below_setCell ?_ ?_ _; (simp <;> omega)) | (with_reducible refine below_drew ?_) | (with_reducible refine below_drewN ?_ _) | (with_reducible refine below_after ?_ (by assumption))))⟩
    case round =>
      obtain ⟨k, m, hm, hk5, rfl, ho, hB, hb⟩ := hrel
      have Hm := Lib.hid hm
      have hkl : (hashesTo l ins k).length ≤ 60 := by rw [hashesTo_len]; omega
      obtain ⟨⟨l0, l1, l2, l3, l4, l5, l6, l7, l8, l9, l10⟩, lf⟩ := hB.c11
      by_cases h5 : (m : Int) ≤ (ins.length : Int)
      · have hml : m ≤ ins.length := by omega
        have HS := Lib.hid (hashesTo_succ l ins k)
        have hst := runTo_stBd (ins := ins) hL m hml (by omega)
        clear hm
        go_wp2_with fail
        refine (l21Ok_any l ins _ _ _ _ _ _ _ (h.below (by (repeat (first | (with_reducible exact Below.refl _ _) | (with_reducible refine below_alloc ?_ _) | (with_reducible refine below_setCell ?_ ?_ _; (simp <;> omega)) | (with_reducible refine below_drew ?_) | (with_reducible refine below_drewN ?_ _) | (with_reducible refine below_after ?_ (by assumption)))))) (hg.below (by (repeat (first | (with_reducible exact Below.refl _ _) | (with_reducible refine below_alloc ?_ _) | (with_reducible refine below_setCell ?_ ?_ _; (simp <;> omega)) | (with_reducible refine below_drew ?_) | (with_reducible refine below_drewN ?_ _) | (with_reducible refine below_after ?_ (by assumption)))))) (hs.below (by (repeat (first | (with_reducible exact Below.refl _ _) | (with_reducible refine below_alloc ?_ _) | (with_reducible refine below_setCell ?_ ?_ _; (simp <;> omega)) | (with_reducible refine below_drew ?_) | (with_reducible refine below_drewN ?_ _) | (with_reducible refine below_after ?_ (by assumption)))))) hn hn' (by omega)).mono ?_
        rw [Hok.out]
        rintro e w1 ⟨rfl, hb1⟩
        have hB1 := hB.later hb1
        have ho1 := ho.later hb1
        have hd1 : Below w.heap.size w w1 := by (repeat (first | (with_reducible exact Below.refl _ _) | (with_reducible refine below_alloc ?_ _) | (with_reducible refine below_setCell ?_ ?_ _; (simp <;> omega)) | (with_reducible refine below_drew ?_) | (with_reducible refine below_drewN ?_ _) | (with_reducible refine below_after ?_ (by assumption))))
        clear hb1 hB ho hb l0 l1 l2 l3 l4 l5 l6 l7 l8 l9 l10 lf
        obtain ⟨⟨l0, l1, l2, l3, l4, l5, l6, l7, l8, l9, l10⟩, lf⟩ := hB1.c11
        go_wp2_with fail
        refine (l21To_any l ins m _ _ _ _ _ _ _ (h.below (by (repeat (first | (with_reducible exact Below.refl _ _) | (with_reducible refine below_alloc ?_ _) | (with_reducible refine below_setCell ?_ ?_ _; (simp <;> omega)) | (with_reducible refine below_drew ?_) | (with_reducible refine below_drewN ?_ _) | (with_reducible refine below_after ?_ (by assumption)))))) (hg.below (by (repeat (first | (with_reducible exact Below.refl _ _) | (with_reducible refine below_alloc ?_ _) | (with_reducible refine below_setCell ?_ ?_ _; (simp <;> omega)) | (with_reducible refine below_drew ?_) | (with_reducible refine below_drewN ?_ _) | (with_reducible refine below_after ?_ (by assumption)))))) (hs.below (by (repeat (first | (with_reducible exact Below.refl _ _) | (with_reducible refine below_alloc ?_ _) | (with_reducible refine below_setCell ?_ ?_ _; (simp <;> omega)) | (with_reducible refine below_drew ?_) | (with_reducible refine below_drewN ?_ _) | (with_reducible refine below_after ?_ (by assumption)))))) hL hml (by omega) hx).mono ?_
        rintro e w2 ⟨rfl, hb2⟩
        have hB2 := hB1.later hb2
        have ho2 := ho1.later hb2
        have hd2 : Below w.heap.size w w2 := by (repeat (first | (with_reducible exact Below.refl _ _) | (with_reducible refine below_alloc ?_ _) | (with_reducible refine below_setCell ?_ ?_ _; (simp <;> omega)) | (with_reducible refine below_drew ?_) | (with_reducible refine below_drewN ?_ _) | (with_reducible refine below_after ?_ (by assumption))))
        clear hb2 hB1 ho1 hd1 l0 l1 l2 l3 l4 l5 l6 l7 l8 l9 l10 lf
        go_wp2_with fail
        refine (l13Hash_any _ _ hst).mono ?_
        rintro e w3 ⟨rfl, hb3⟩
        have hB3 := hB2.later hb3
        have ho3 := ho2.later hb3
        have hd3 : Below w.heap.size w w3 := by (repeat (first | (with_reducible exact Below.refl _ _) | (with_reducible refine below_alloc ?_ _) | (with_reducible refine below_setCell ?_ ?_ _; (simp <;> omega)) | (with_reducible refine below_drew ?_) | (with_reducible refine below_drewN ?_ _) | (with_reducible refine below_after ?_ (by assumption))))
        clear hb3 hB2 ho2 hd2
        have hx3 := hB3.lt
        have hgt := ho3.lt
        go_wp2_with (at_builtin; refine wp_appS rfl _ _ 28 rfl (w.heap.size + 1) 3 i0 (.int .i64 0) 1 8 Try.underlying28 hi hz0 hz1 hz2 rfl (by decide) encInt_len one_int _ _ [hashS (runTo l ins m)] rfl (ho3.alloc _) _ 1 1 rfl (Sl.one _ (hashS (runTo l ins m)) _ _ rfl) (by intro e; cases e) (by unfold maxLen; omega) (by omega) (by simp; omega) ?_; intro v' w4 ho4 hg4)
        case roundEnd =>
          have hg5 : (w3.alloc (.cells #[.int .i64 (hashS (runTo l ins m))] 3)).grownBy w4 u5.ownBlock := hg4
          have hB4 : Bk w4 w.heap.size 95 #[.int .i64 l.id, .int .i64 l.ticks, .int .i64 l.start.x, .int .i64 l.start.y, .slice A l.walls.length c, .slice A' l.gates.length c', .int .i64 l.fin.lo.x, .int .i64 l.fin.lo.y, .int .i64 l.fin.hi.x, .int .i64 l.fin.hi.y, .int .i64 l.bans] := (hB3.alloc _).grown hg5 (by intro e; have := (hgt _ e.symm).1; omega)
          have hd4 : Below w.heap.size w w4 := (below_alloc hd3 _).grown hg5 (by simp; omega) (by intro g e; have := (hgt _ e).1; omega)
          have HS2 : hashesTo l ins (k + 1) = hashesTo l ins k ++ [hashS (runTo l ins m)] := by rw [Hm.out]; exact HS.out
          rw [← HS2] at ho4
          go_roundw
          case rel => exact ⟨k + 1, m + 5, by have := Hm.out; omega, by have := Hm.out; omega, by go_num, ho4, hB4, hd4⟩
          case measure => simp [intOf]; omega
      · have hk : k = ins.length / 5 := by omega
        obtain ⟨A1, c1, rfl, hc1, _⟩ := ho.form
        subst hk
        have hlen := hashesTo_len l ins (ins.length / 5)
        clear h hg hs
        go_wp2
        exact bodyPost_ret (v := .slice A1 (hashesTo l ins (ins.length / 5)).length c1) (by simp [results, Try.results109, go_sem, hlen]) rfl ⟨A1, c1, rfl, hc1, ho.mono (by omega), hb⟩
end Go.Proofs.Ytkendoffknjpiaa
