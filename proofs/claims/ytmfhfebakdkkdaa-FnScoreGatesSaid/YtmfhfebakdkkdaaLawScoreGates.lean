/- The law FnScoreGates: its walk. Gates are passed in order. Printed by gen/lawsT.py. (Round B) -/
import Derived.Test.YtmfhfebakdkkdaaRunR
import Derived.Test.YtmfhfebakdkkdaaImpU
namespace Go.Proofs.Ytmfhfebakdkkdaa
open Go.ChangeShapes Go.WideShapes Go.ChangeAt Go.RowKit
set_option maxRecDepth 100000 in
set_option maxHeartbeats 8000000 in
theorem lawScoreGates (A : Option Addr) (n c : Nat) (l : List Int) (w : World) (h : Sl w 1 encU8 A n l) (hl : ∀ x ∈ l, 0 ≤ x ∧ x < 256) (hn : n ≤ 9223372036854775807) (hnc : n ≤ c) (hc : c ≤ 9223372036854775807) :
    Calls Try.prog 19 #[.slice A n c] w fun e w' => e = .returned (.bool true) ∧ Below w.heap.size w w' := by
  by_cases h1 : 1048576 < (n : Int)
  · go_enter Try.func19, Try.ntmps19
    go_wp2
    go_ret
    exact ⟨rfl, Below.refl _ _⟩
  go_enter Try.func19, Try.ntmps19
  go_wp2_with fail
  refine (drawRunScore_any A n c l _ h hl hn hnc hc).mono ?_
  rintro e w1 ⟨lv, B, B', k, k', ins, A2, c2, rfl, hD, -, d1⟩
  clear h hl
  have nw := hD.nw
  have ng := hD.ng
  have ni := hD.ni
  have ci := hD.ci
  have y1 := d1.size
  obtain ⟨sc, hsc⟩ : ∃ sc, scoreR lv ins = sc := ⟨_, rfl⟩
  have HSC := Lib.hid hsc
  obtain ⟨L, hL⟩ : ∃ L, w1.heap.size = L := ⟨_, rfl⟩
  go_wp2_with fail
  refine (implRunScore_any lv ins B B' A2 k k' c2 _ (hD.W.below (by (repeat (first | (with_reducible assumption) | (with_reducible exact Below.refl _ _) | (with_reducible refine below_alloc ?_ _) | (with_reducible refine below_setCell ?_ ?_ _; (simp <;> omega)) | (with_reducible refine below_drew ?_) | (with_reducible refine below_drewN ?_ _) | (with_reducible refine below_after ?_ (by assumption)))))) (hD.G.below (by (repeat (first | (with_reducible assumption) | (with_reducible exact Below.refl _ _) | (with_reducible refine below_alloc ?_ _) | (with_reducible refine below_setCell ?_ ?_ _; (simp <;> omega)) | (with_reducible refine below_drew ?_) | (with_reducible refine below_drewN ?_ _) | (with_reducible refine below_after ?_ (by assumption)))))) hD.e hD.e' (by omega) (by omega) (hD.I.below (by (repeat (first | (with_reducible assumption) | (with_reducible exact Below.refl _ _) | (with_reducible refine below_alloc ?_ _) | (with_reducible refine below_setCell ?_ ?_ _; (simp <;> omega)) | (with_reducible refine below_drew ?_) | (with_reducible refine below_drewN ?_ _) | (with_reducible refine below_after ?_ (by assumption)))))) (by omega)).mono ?_
  rw [hsc]
  rintro e w2 ⟨rfl, hb2⟩
  have FD2 : Drawn lv B B' k k' ins A2 c2 w2 := Drawn.below (by (repeat (first | (with_reducible assumption) | (with_reducible refine Drawn.alloc ?_ _) | (with_reducible refine Drawn.drew ?_)))) hb2
  have FL2 : Bk w2 L 29 #[.int .i64 lv.id, .int .i64 lv.ticks, .int .i64 lv.start.x, .int .i64 lv.start.y, .slice B lv.walls.length k, .slice B' lv.gates.length k', .int .i64 lv.fin.lo.x, .int .i64 lv.fin.lo.y, .int .i64 lv.fin.hi.x, .int .i64 lv.fin.hi.y, .int .i64 lv.bans] := Bk.later (by (repeat (first | (with_reducible assumption) | (with_reducible exact Bk.new _ _ _ (by first | assumption | (simp; done) | (simp; omega))) | (with_reducible refine Bk.alloc ?_ _) | (with_reducible refine Bk.drew ?_) | (with_reducible refine Bk.drewN ?_ _) | (with_reducible apply Bk.set') | (with_reducible refine Bk.far ?_ (by first | omega | (simp; done) | (simp; omega)) _) | (exact SetTo.mk (by with_reducible rfl)) | (exact SetTo.mk (by simp))))) hb2
  have d2 : Below w.heap.size w w2 := below_after (by (repeat (first | (with_reducible assumption) | (with_reducible exact Below.refl _ _) | (with_reducible refine below_alloc ?_ _) | (with_reducible refine below_setCell ?_ ?_ _; (simp <;> omega)) | (with_reducible refine below_drew ?_) | (with_reducible refine below_drewN ?_ _) | (with_reducible refine below_after ?_ (by assumption))))) hb2
  have y2 := d2.size
  have zL2 := FL2.lt
  clear hb2 hD d1 y1
  obtain ⟨⟨cL0, cL1, cL2, cL3, cL4, cL5, cL6, cL7, cL8, cL9, cL10⟩, cLf⟩ := FL2.c11
  go_wp2_with fail
  refine (specRunScore_any lv ins B B' A2 k k' c2 _ (FD2.W.below (by (repeat (first | (with_reducible assumption) | (with_reducible exact Below.refl _ _) | (with_reducible refine below_alloc ?_ _) | (with_reducible refine below_setCell ?_ ?_ _; (simp <;> omega)) | (with_reducible refine below_drew ?_) | (with_reducible refine below_drewN ?_ _) | (with_reducible refine below_after ?_ (by assumption)))))) (FD2.G.below (by (repeat (first | (with_reducible assumption) | (with_reducible exact Below.refl _ _) | (with_reducible refine below_alloc ?_ _) | (with_reducible refine below_setCell ?_ ?_ _; (simp <;> omega)) | (with_reducible refine below_drew ?_) | (with_reducible refine below_drewN ?_ _) | (with_reducible refine below_after ?_ (by assumption)))))) (FD2.I.below (by (repeat (first | (with_reducible assumption) | (with_reducible exact Below.refl _ _) | (with_reducible refine below_alloc ?_ _) | (with_reducible refine below_setCell ?_ ?_ _; (simp <;> omega)) | (with_reducible refine below_drew ?_) | (with_reducible refine below_drewN ?_ _) | (with_reducible refine below_after ?_ (by assumption)))))) (by omega) (by omega) (by omega)).mono ?_
  rw [hsc]
  clear hsc
  rintro e w3 ⟨rfl, hb3⟩
  have FD3 : Drawn lv B B' k k' ins A2 c2 w3 := Drawn.below (by (repeat (first | (with_reducible assumption) | (with_reducible refine Drawn.alloc ?_ _) | (with_reducible refine Drawn.drew ?_)))) hb3
  have FL3 : Bk w3 L 29 #[.int .i64 lv.id, .int .i64 lv.ticks, .int .i64 lv.start.x, .int .i64 lv.start.y, .slice B lv.walls.length k, .slice B' lv.gates.length k', .int .i64 lv.fin.lo.x, .int .i64 lv.fin.lo.y, .int .i64 lv.fin.hi.x, .int .i64 lv.fin.hi.y, .int .i64 lv.bans] := Bk.later (by (repeat (first | (with_reducible assumption) | (with_reducible exact Bk.new _ _ _ (by first | assumption | (simp; done) | (simp; omega))) | (with_reducible refine Bk.alloc ?_ _) | (with_reducible refine Bk.drew ?_) | (with_reducible refine Bk.drewN ?_ _) | (with_reducible apply Bk.set') | (with_reducible refine Bk.far ?_ (by first | omega | (simp; done) | (simp; omega)) _) | (exact SetTo.mk (by with_reducible rfl)) | (exact SetTo.mk (by simp))))) hb3
  have d3 : Below w.heap.size w w3 := below_after (by (repeat (first | (with_reducible assumption) | (with_reducible exact Below.refl _ _) | (with_reducible refine below_alloc ?_ _) | (with_reducible refine below_setCell ?_ ?_ _; (simp <;> omega)) | (with_reducible refine below_drew ?_) | (with_reducible refine below_drewN ?_ _) | (with_reducible refine below_after ?_ (by assumption))))) hb3
  have y3 := d3.size
  have zL3 := FL3.lt
  clear hb3 FD2 FL2 d2 y2 zL2 cL0 cL1 cL2 cL3 cL4 cL5 cL6 cL7 cL8 cL9 cL10 cLf
  obtain ⟨⟨cL0, cL1, cL2, cL3, cL4, cL5, cL6, cL7, cL8, cL9, cL10⟩, cLf⟩ := FL3.c11
  by_cases hneg : sc < 0
  · go_wp2
    go_ret
    exact ⟨rfl, by (repeat (first | (with_reducible assumption) | (with_reducible exact Below.refl _ _) | (with_reducible refine below_alloc ?_ _) | (with_reducible refine below_setCell ?_ ?_ _; (simp <;> omega)) | (with_reducible refine below_drew ?_) | (with_reducible refine below_drewN ?_ _) | (with_reducible refine below_after ?_ (by assumption))))⟩
  have hns : 0 ≤ scoreR lv ins := by rw [HSC.out]; omega
  obtain ⟨t, ht, t1, t2, t3, t4, t5, t6, hr⟩ := score_at hns
  obtain rfl : sc = (t : Int) := by rw [← HSC.out, ht]
  have h60 := (runOk_bd hr).2.1
  have T3 := Lib.hid t3
  have T4 := Lib.hid t4
  have T5 := Lib.hid t5
  have T6 := Lib.hid t6
  have HT := Lib.hid ht
  clear ht t3 t4 t5 t6 hns
  have HLO := Lib.hid (runOk_lev hr)
  obtain ⟨pl, hpl⟩ : ∃ pl, pathR lv ins = pl := ⟨_, rfl⟩
  have HPP := Lib.hid hpl
  clear hpl
  go_wp2_with fail
  refine (implRunPath_any lv ins B B' A2 k k' c2 _ (FD3.W.below (by (repeat (first | (with_reducible assumption) | (with_reducible exact Below.refl _ _) | (with_reducible refine below_alloc ?_ _) | (with_reducible refine below_setCell ?_ ?_ _; (simp <;> omega)) | (with_reducible refine below_drew ?_) | (with_reducible refine below_drewN ?_ _) | (with_reducible refine below_after ?_ (by assumption)))))) (FD3.G.below (by (repeat (first | (with_reducible assumption) | (with_reducible exact Below.refl _ _) | (with_reducible refine below_alloc ?_ _) | (with_reducible refine below_setCell ?_ ?_ _; (simp <;> omega)) | (with_reducible refine below_drew ?_) | (with_reducible refine below_drewN ?_ _) | (with_reducible refine below_after ?_ (by assumption)))))) FD3.e FD3.e' (by omega) (by omega) (FD3.I.below (by (repeat (first | (with_reducible assumption) | (with_reducible exact Below.refl _ _) | (with_reducible refine below_alloc ?_ _) | (with_reducible refine below_setCell ?_ ?_ _; (simp <;> omega)) | (with_reducible refine below_drew ?_) | (with_reducible refine below_drewN ?_ _) | (with_reducible refine below_after ?_ (by assumption)))))) (by omega)).mono ?_
  rw [HPP.out]
  rintro e w4 ⟨A6, c6, rfl, hc6, hO6, hb4⟩
  have FD4 : Drawn lv B B' k k' ins A2 c2 w4 := Drawn.below (by (repeat (first | (with_reducible assumption) | (with_reducible refine Drawn.alloc ?_ _) | (with_reducible refine Drawn.drew ?_)))) hb4
  have FL4 : Bk w4 L 29 #[.int .i64 lv.id, .int .i64 lv.ticks, .int .i64 lv.start.x, .int .i64 lv.start.y, .slice B lv.walls.length k, .slice B' lv.gates.length k', .int .i64 lv.fin.lo.x, .int .i64 lv.fin.lo.y, .int .i64 lv.fin.hi.x, .int .i64 lv.fin.hi.y, .int .i64 lv.bans] := Bk.later (by (repeat (first | (with_reducible assumption) | (with_reducible exact Bk.new _ _ _ (by first | assumption | (simp; done) | (simp; omega))) | (with_reducible refine Bk.alloc ?_ _) | (with_reducible refine Bk.drew ?_) | (with_reducible refine Bk.drewN ?_ _) | (with_reducible apply Bk.set') | (with_reducible refine Bk.far ?_ (by first | omega | (simp; done) | (simp; omega)) _) | (exact SetTo.mk (by with_reducible rfl)) | (exact SetTo.mk (by simp))))) hb4
  have d4 : Below w.heap.size w w4 := below_after (by (repeat (first | (with_reducible assumption) | (with_reducible exact Below.refl _ _) | (with_reducible refine below_alloc ?_ _) | (with_reducible refine below_setCell ?_ ?_ _; (simp <;> omega)) | (with_reducible refine below_drew ?_) | (with_reducible refine below_drewN ?_ _) | (with_reducible refine below_after ?_ (by assumption))))) hb4
  have y4 := d4.size
  have zL4 := FL4.lt
  clear hb4 FD3 FL3 d3 y3 zL3 cL0 cL1 cL2 cL3 cL4 cL5 cL6 cL7 cL8 cL9 cL10 cLf
  obtain ⟨⟨cL0, cL1, cL2, cL3, cL4, cL5, cL6, cL7, cL8, cL9, cL10⟩, cLf⟩ := FL4.c11
  have hP6 : Sl w4 2 encV2 A6 pl.length pl := hO6.sl' encV2_len
  clear hO6
  have hpn : pl.length = ins.length + 1 := by rw [← HPP.out]; exact pathR_yes hr
  have HAT : Hid (∀ j x, pl[j]? = some x → vOk x = true ∧ x = (runTo lv ins j).p) := Lib.hid (by
    intro j x hx
    have hj : j ≤ ins.length := by have := (List.getElem?_eq_some_iff.1 hx).1; omega
    rw [← HPP.out, pathR_at hr hj] at hx
    injection hx with hx
    subst hx
    exact ⟨(runTo_ok ins j (levOk_iff.1 HLO.out).2.2.1).p, rfl⟩)
  have HALL : Hid (passTo lv ins ins.length = lv.gates.length) := Lib.hid (passed_all (levOk_iff.1 HLO.out).2.2.1 (by rw [← T3.out]; exact T4.out))
  have HGO : Hid (∀ b ∈ lv.gates, bxOk b = true) := Lib.hid (levOk_iff.1 HLO.out).2.2.2.2.2.2.1
  clear hr
  go_wp2
  go_loopw [8, 9] (fun kv i wr => ∃ j g : Nat, j ≤ ins.length ∧ g = passTo lv ins j ∧ g ≤ lv.gates.length ∧ kv = .int .i64 g ∧ i = .int .i64 ((j : Int) + 1) ∧ Below w4.heap.size w4 wr) (fun _ i _ => ins.length + 1 - (intOf i).toNat)
  case atStart => exact ⟨0, 0, Nat.zero_le _, rfl, Nat.zero_le _, rfl, by go_num, Below.refl _ _⟩
  case round =>
    obtain ⟨j, g, hj, hgp, hgl, rfl, rfl, hb⟩ := hrel
    have HG := Lib.hid hgp
    have Lr := FL4.later hb
    have dr := below_after d4 hb
    clear hgp cL0 cL1 cL2 cL3 cL4 cL5 cL6 cL7 cL8 cL9 cL10 cLf
    obtain ⟨⟨cL0, cL1, cL2, cL3, cL4, cL5, cL6, cL7, cL8, cL9, cL10⟩, cLf⟩ := Lr.c11
    have zr := Lr.lt
    by_cases hlt : j < ins.length
    · have hlt1 : (j : Int) + 1 < (pl.length : Int) := by omega
      have hlt2 : decide ((j : Int) + 1 < (pl.length : Int)) = true := by rw [decide_eq_true_eq]; exact hlt1
      by_cases hgg : g < lv.gates.length
      · obtain ⟨b, off, x, hA6, hbl, hx, hcx⟩ := (hP6.below hb).at_ (k := j + 1) (by omega)
        obtain ⟨b2, off2, y, hB, hbl2, hy, hcy⟩ := (FD4.below hb).G.at_ hgg
        subst hA6 hB
        have hgi : (g : Int) < (lv.gates.length : Int) := by omega
        have q0 : wr.cell? ⟨b, off + (j + 1) * 2, none⟩ = some (.int .i64 x.x) := hcx 0 _ rfl
        have q1 : wr.cell? ⟨b, off + (j + 1) * 2 + 1, none⟩ = some (.int .i64 x.y) := hcx 1 _ rfl
        have r0 : wr.cell? ⟨b2, off2 + g * 4, none⟩ = some (.int .i64 y.lo.x) := hcy 0 _ rfl
        have r1 : wr.cell? ⟨b2, off2 + g * 4 + 1, none⟩ = some (.int .i64 y.lo.y) := hcy 1 _ rfl
        have r2 : wr.cell? ⟨b2, off2 + g * 4 + 2, none⟩ = some (.int .i64 y.hi.x) := hcy 2 _ rfl
        have r3 : wr.cell? ⟨b2, off2 + g * 4 + 3, none⟩ = some (.int .i64 y.hi.y) := hcy 3 _ rfl
        obtain ⟨hvx, hxp⟩ := HAT.out (j + 1) x hx
        have HVX := Lib.hid hvx
        have HYO := Lib.hid (HGO.out y (List.mem_of_getElem? hy))
        have HN : Hid (passTo lv ins (j + 1) = if hasV y x then g + 1 else g) := Lib.hid (by show passL lv.gates (passTo lv ins j) (runTo lv ins (j + 1)).p = _; rw [← HG.out, ← hxp]; unfold passL; rw [hy]; rfl)
        have hj1 : ((j : Int) + 1).toNat = j + 1 := by omega
        have hj0 : (0 : Int) ≤ (j : Int) + 1 := by omega
        have hgg2 : decide ((g : Int) < (lv.gates.length : Int)) = true := by rw [decide_eq_true_eq]; exact hgi
        clear hcx hx hvx hxp hcy hy
        obtain ⟨hv, hhv⟩ : ∃ hv, hasV y x = hv := ⟨_, rfl⟩
        have HHV := Lib.hid hhv
        rw [hhv] at HN
        clear hhv
        go_wp2
        go_region_held3 (fun w' => (w'.cell? ⟨L, 0, none⟩ = some (.int .i64 lv.id) ∧ w'.cell? ⟨L, 1, none⟩ = some (.int .i64 lv.ticks) ∧ w'.cell? ⟨L, 2, none⟩ = some (.int .i64 lv.start.x) ∧ w'.cell? ⟨L, 3, none⟩ = some (.int .i64 lv.start.y) ∧ w'.cell? ⟨L, 4, none⟩ = some (.slice B lv.walls.length k) ∧ w'.cell? ⟨L, 5, none⟩ = some (.slice (some ⟨b2, off2, none⟩) lv.gates.length k') ∧ w'.cell? ⟨L, 6, none⟩ = some (.int .i64 lv.fin.lo.x) ∧ w'.cell? ⟨L, 7, none⟩ = some (.int .i64 lv.fin.lo.y) ∧ w'.cell? ⟨L, 8, none⟩ = some (.int .i64 lv.fin.hi.x) ∧ w'.cell? ⟨L, 9, none⟩ = some (.int .i64 lv.fin.hi.y) ∧ w'.cell? ⟨L, 10, none⟩ = some (.int .i64 lv.bans)) ∧ (w'.cell? ⟨b, off + (j + 1) * 2, none⟩ = some (.int .i64 x.x) ∧ w'.cell? ⟨b, off + (j + 1) * 2 + 1, none⟩ = some (.int .i64 x.y)) ∧ (w'.cell? ⟨b2, off2 + g * 4, none⟩ = some (.int .i64 y.lo.x) ∧ w'.cell? ⟨b2, off2 + g * 4 + 1, none⟩ = some (.int .i64 y.lo.y) ∧ w'.cell? ⟨b2, off2 + g * 4 + 2, none⟩ = some (.int .i64 y.hi.x) ∧ w'.cell? ⟨b2, off2 + g * 4 + 3, none⟩ = some (.int .i64 y.hi.y)))
          (with_reducible exact ⟨keepLv Lr (by (repeat (first | (with_reducible assumption) | (with_reducible exact Below.refl _ _) | (with_reducible refine below_alloc ?_ _) | (with_reducible refine below_setCell ?_ ?_ _; (simp <;> omega)) | (with_reducible refine below_drew ?_) | (with_reducible refine below_drewN ?_ _) | (with_reducible refine below_after ?_ (by assumption))))), keepC2 q0 q1 hbl hbl (by (repeat (first | (with_reducible assumption) | (with_reducible exact Below.refl _ _) | (with_reducible refine below_alloc ?_ _) | (with_reducible refine below_setCell ?_ ?_ _; (simp <;> omega)) | (with_reducible refine below_drew ?_) | (with_reducible refine below_drewN ?_ _) | (with_reducible refine below_after ?_ (by assumption))))), keepC4 r0 r1 r2 r3 hbl2 hbl2 hbl2 hbl2 (by (repeat (first | (with_reducible assumption) | (with_reducible exact Below.refl _ _) | (with_reducible refine below_alloc ?_ _) | (with_reducible refine below_setCell ?_ ?_ _; (simp <;> omega)) | (with_reducible refine below_drew ?_) | (with_reducible refine below_drewN ?_ _) | (with_reducible refine below_after ?_ (by assumption)))))⟩)
          ((go_at_call 28; refine (implBoxHas_any y x _ HYO.out HVX.out).mono ?_; rw [HHV.out]; rintro e w5 ⟨rfl, hb5⟩))
        have hb6 : Below w4.heap.size w4 w5 := below_after (below_after hb (below_drew (Below.refl _ _))) hb5
        cases hv
        · go_wp2
          go_roundw
          case rel => exact ⟨j + 1, g, by omega, HN.out.symm, by omega, rfl, by go_num, hb6⟩
          case measure => simp [intOf]; omega
        · go_wp2
          go_roundw
          case rel => exact ⟨j + 1, g + 1, by omega, HN.out.symm, by omega, by go_num, by go_num, hb6⟩
          case measure => simp [intOf]; omega
      · obtain rfl : g = lv.gates.length := by omega
        have hnl : ¬ ((lv.gates.length : Int) < (lv.gates.length : Int)) := by omega
        go_wp2
        go_ret
        exact ⟨rfl, by (repeat (first | (with_reducible assumption) | (with_reducible exact Below.refl _ _) | (with_reducible refine below_alloc ?_ _) | (with_reducible refine below_setCell ?_ ?_ _; (simp <;> omega)) | (with_reducible refine below_drew ?_) | (with_reducible refine below_drewN ?_ _) | (with_reducible refine below_after ?_ (by assumption))))⟩
    · obtain rfl : j = ins.length := by omega
      have hnl : ¬ ((ins.length : Int) + 1 < (pl.length : Int)) := by omega
      obtain rfl : g = lv.gates.length := by rw [HG.out]; exact HALL.out
      go_wp2
      go_ret
      exact ⟨rfl, by (repeat (first | (with_reducible assumption) | (with_reducible exact Below.refl _ _) | (with_reducible refine below_alloc ?_ _) | (with_reducible refine below_setCell ?_ ?_ _; (simp <;> omega)) | (with_reducible refine below_drew ?_) | (with_reducible refine below_drewN ?_ _) | (with_reducible refine below_after ?_ (by assumption))))⟩
end Go.Proofs.Ytmfhfebakdkkdaa
