/- The law FnRunNext: its walk. A run goes on tick by tick. Printed by gen/lawsT.py. (Round B) -/
import Derived.Test.YtmfhfebakdkkdaaRunQ
import Derived.Test.YtmfhfebakdkkdaaImpT
namespace Go.Proofs.Ytmfhfebakdkkdaa
open Go.ChangeShapes Go.WideShapes Go.ChangeAt Go.RowKit
set_option maxRecDepth 100000 in
set_option maxHeartbeats 8000000 in
theorem lawRunNext (A : Option Addr) (n c : Nat) (l : List Int) (w : World) (h : Sl w 1 encU8 A n l) (hl : ∀ x ∈ l, 0 ≤ x ∧ x < 256) (hn : n ≤ 9223372036854775807) (hnc : n ≤ c) (hc : c ≤ 9223372036854775807) :
    Calls Try.prog 16 #[.slice A n c] w fun e w' => e = .returned (.bool true) ∧ Below w.heap.size w w' := by
  by_cases h1 : 1048576 < (n : Int)
  · go_enter Try.func16, Try.ntmps16
    go_wp2
    go_ret
    exact ⟨rfl, Below.refl _ _⟩
  have hEq := eqStIn
  go_enter Try.func16, Try.ntmps16
  go_wp2_with fail
  refine (drawRunTo_any A n c l _ h hl hn hnc hc).mono ?_
  rintro e w1 ⟨lv, B, B', k, k', ins, A2, c2, m, rfl, hD, ⟨m0, m1⟩, -, d1⟩
  clear h hl
  have nw := hD.nw
  have ng := hD.ng
  have ni := hD.ni
  have ci := hD.ci
  have y1 := d1.size
  obtain ⟨sv, hsv⟩ : ∃ sv, toR lv ins m = sv := ⟨_, rfl⟩
  obtain ⟨bv, hbv⟩ : ∃ bv, toOk lv ins m = bv := ⟨_, rfl⟩
  have HSV := Lib.hid hsv
  have HBV := Lib.hid hbv
  obtain ⟨L, hL⟩ : ∃ L, w1.heap.size = L := ⟨_, rfl⟩
  go_wp2_with fail
  refine (implRunTo_any lv ins m B B' A2 k k' c2 _ (hD.W.below (by (repeat (first | (with_reducible assumption) | (with_reducible exact Below.refl _ _) | (with_reducible refine below_alloc ?_ _) | (with_reducible refine below_setCell ?_ ?_ _; (simp <;> omega)) | (with_reducible refine below_drew ?_) | (with_reducible refine below_drewN ?_ _) | (with_reducible refine below_after ?_ (by assumption)))))) (hD.G.below (by (repeat (first | (with_reducible assumption) | (with_reducible exact Below.refl _ _) | (with_reducible refine below_alloc ?_ _) | (with_reducible refine below_setCell ?_ ?_ _; (simp <;> omega)) | (with_reducible refine below_drew ?_) | (with_reducible refine below_drewN ?_ _) | (with_reducible refine below_after ?_ (by assumption)))))) hD.e hD.e' (by omega) (by omega) (hD.I.below (by (repeat (first | (with_reducible assumption) | (with_reducible exact Below.refl _ _) | (with_reducible refine below_alloc ?_ _) | (with_reducible refine below_setCell ?_ ?_ _; (simp <;> omega)) | (with_reducible refine below_drew ?_) | (with_reducible refine below_drewN ?_ _) | (with_reducible refine below_after ?_ (by assumption)))))) (by omega)).mono ?_
  rw [hsv, hbv]
  rintro e w2 ⟨rfl, hb2⟩
  have FD2 : Drawn lv B B' k k' ins A2 c2 w2 := Drawn.below (by (repeat (first | (with_reducible assumption) | (with_reducible refine Drawn.alloc ?_ _) | (with_reducible refine Drawn.drew ?_)))) hb2
  have FL2 : Bk w2 L 29 #[.int .i64 lv.id, .int .i64 lv.ticks, .int .i64 lv.start.x, .int .i64 lv.start.y, .slice B lv.walls.length k, .slice B' lv.gates.length k', .int .i64 lv.fin.lo.x, .int .i64 lv.fin.lo.y, .int .i64 lv.fin.hi.x, .int .i64 lv.fin.hi.y, .int .i64 lv.bans] := Bk.later (by (repeat (first | (with_reducible assumption) | (with_reducible exact Bk.new _ _ _ (by first | assumption | (simp; done) | (simp; omega))) | (with_reducible refine Bk.alloc ?_ _) | (with_reducible refine Bk.drew ?_) | (with_reducible refine Bk.drewN ?_ _) | (with_reducible apply Bk.set') | (with_reducible refine Bk.far ?_ (by first | omega | (simp; done) | (simp; omega)) _) | (exact SetTo.mk (by with_reducible rfl)) | (exact SetTo.mk (by simp))))) hb2
  have d2 : Below w.heap.size w w2 := below_after (by (repeat (first | (with_reducible assumption) | (with_reducible exact Below.refl _ _) | (with_reducible refine below_alloc ?_ _) | (with_reducible refine below_setCell ?_ ?_ _; (simp <;> omega)) | (with_reducible refine below_drew ?_) | (with_reducible refine below_drewN ?_ _) | (with_reducible refine below_after ?_ (by assumption))))) hb2
  have y2 := d2.size
  have zL2 := FL2.lt
  clear hb2 hD d1 y1
  obtain ⟨⟨cL0, cL1, cL2, cL3, cL4, cL5, cL6, cL7, cL8, cL9, cL10⟩, cLf⟩ := FL2.c11
  obtain ⟨S, hS⟩ : ∃ S, w2.heap.size = S := ⟨_, rfl⟩
  have qLS : L < S := by omega
  go_wp2_with fail
  refine (specRunTo_any lv ins m B B' A2 k k' c2 _ (FD2.W.below (by (repeat (first | (with_reducible assumption) | (with_reducible exact Below.refl _ _) | (with_reducible refine below_alloc ?_ _) | (with_reducible refine below_setCell ?_ ?_ _; (simp <;> omega)) | (with_reducible refine below_drew ?_) | (with_reducible refine below_drewN ?_ _) | (with_reducible refine below_after ?_ (by assumption)))))) (FD2.G.below (by (repeat (first | (with_reducible assumption) | (with_reducible exact Below.refl _ _) | (with_reducible refine below_alloc ?_ _) | (with_reducible refine below_setCell ?_ ?_ _; (simp <;> omega)) | (with_reducible refine below_drew ?_) | (with_reducible refine below_drewN ?_ _) | (with_reducible refine below_after ?_ (by assumption)))))) (FD2.I.below (by (repeat (first | (with_reducible assumption) | (with_reducible exact Below.refl _ _) | (with_reducible refine below_alloc ?_ _) | (with_reducible refine below_setCell ?_ ?_ _; (simp <;> omega)) | (with_reducible refine below_drew ?_) | (with_reducible refine below_drewN ?_ _) | (with_reducible refine below_after ?_ (by assumption)))))) (by omega) (by omega) (by omega)).mono ?_
  rw [hsv, hbv]
  clear hsv hbv
  rintro e w3 ⟨rfl, hb3⟩
  have FD3 : Drawn lv B B' k k' ins A2 c2 w3 := Drawn.below (by (repeat (first | (with_reducible assumption) | (with_reducible refine Drawn.alloc ?_ _) | (with_reducible refine Drawn.drew ?_)))) hb3
  have FL3 : Bk w3 L 29 #[.int .i64 lv.id, .int .i64 lv.ticks, .int .i64 lv.start.x, .int .i64 lv.start.y, .slice B lv.walls.length k, .slice B' lv.gates.length k', .int .i64 lv.fin.lo.x, .int .i64 lv.fin.lo.y, .int .i64 lv.fin.hi.x, .int .i64 lv.fin.hi.y, .int .i64 lv.bans] := Bk.later (by (repeat (first | (with_reducible assumption) | (with_reducible exact Bk.new _ _ _ (by first | assumption | (simp; done) | (simp; omega))) | (with_reducible refine Bk.alloc ?_ _) | (with_reducible refine Bk.drew ?_) | (with_reducible refine Bk.drewN ?_ _) | (with_reducible apply Bk.set') | (with_reducible refine Bk.far ?_ (by first | omega | (simp; done) | (simp; omega)) _) | (exact SetTo.mk (by with_reducible rfl)) | (exact SetTo.mk (by simp))))) hb3
  have FS3 : Bk w3 S 31 #[.int .i64 sv.t, .int .i64 sv.p.x, .int .i64 sv.p.y, .int .i64 sv.f.x, .int .i64 sv.f.y, .int .i64 sv.d, .int .i64 sv.g, .bool sv.dn, .bool sv.ov] := Bk.later (by (repeat (first | (with_reducible assumption) | (with_reducible exact Bk.new _ _ _ (by first | assumption | (simp; done) | (simp; omega))) | (with_reducible refine Bk.alloc ?_ _) | (with_reducible refine Bk.drew ?_) | (with_reducible refine Bk.drewN ?_ _) | (with_reducible apply Bk.set') | (with_reducible refine Bk.far ?_ (by first | omega | (simp; done) | (simp; omega)) _) | (exact SetTo.mk (by with_reducible rfl)) | (exact SetTo.mk (by simp))))) hb3
  have d3 : Below w.heap.size w w3 := below_after (by (repeat (first | (with_reducible assumption) | (with_reducible exact Below.refl _ _) | (with_reducible refine below_alloc ?_ _) | (with_reducible refine below_setCell ?_ ?_ _; (simp <;> omega)) | (with_reducible refine below_drew ?_) | (with_reducible refine below_drewN ?_ _) | (with_reducible refine below_after ?_ (by assumption))))) hb3
  have y3 := d3.size
  have zL3 := FL3.lt
  have zS3 := FS3.lt
  clear hb3 FD2 FL2 d2 y2 zL2 cL0 cL1 cL2 cL3 cL4 cL5 cL6 cL7 cL8 cL9 cL10 cLf
  obtain ⟨⟨cL0, cL1, cL2, cL3, cL4, cL5, cL6, cL7, cL8, cL9, cL10⟩, cLf⟩ := FL3.c11
  obtain ⟨⟨cS0, cS1, cS2, cS3, cS4, cS5, cS6, cS7, cS8⟩, cSf⟩ := FS3.c9
  cases bv
  · go_wp2
    go_ret
    exact ⟨rfl, by (repeat (first | (with_reducible assumption) | (with_reducible exact Below.refl _ _) | (with_reducible refine below_alloc ?_ _) | (with_reducible refine below_setCell ?_ ?_ _; (simp <;> omega)) | (with_reducible refine below_drew ?_) | (with_reducible refine below_drewN ?_ _) | (with_reducible refine below_after ?_ (by assumption))))⟩
  obtain ⟨hr, i0, i1⟩ := toOk_iff.1 HBV.out
  obtain ⟨q, rfl⟩ := Int.eq_ofNat_of_zero_le i0
  have hq : q ≤ ins.length := by omega
  have HSV2 := Lib.hid (show runTo lv ins q = sv from (toR_nat hr hq).symm.trans HSV.out)
  have h60 := (runOk_bd hr).2.1
  clear i0 i1 m0 m1
  by_cases hqn : q = ins.length
  · have hqe : ((q : Int) == (ins.length : Int)) = true := by rw [beq_iff_eq]; omega
    have HQ := Lib.hid hqn
    clear hqn
    go_wp2
    go_ret
    exact ⟨rfl, by (repeat (first | (with_reducible assumption) | (with_reducible exact Below.refl _ _) | (with_reducible refine below_alloc ?_ _) | (with_reducible refine below_setCell ?_ ?_ _; (simp <;> omega)) | (with_reducible refine below_drew ?_) | (with_reducible refine below_drewN ?_ _) | (with_reducible refine below_after ?_ (by assumption))))⟩
  have hqe : ((q : Int) == (ins.length : Int)) = false := by rw [beq_eq_false_iff_ne]; omega
  have hql : q < ins.length := by omega
  obtain ⟨x, hx⟩ : ∃ x, ins[q]? = some x := ⟨_, List.getElem?_eq_getElem hql⟩
  obtain ⟨hxi, hxt⟩ := run_next hr q x hx
  rw [HSV2.out] at hxt
  have HV : Hid (validB lv sv = true) := Lib.hid (by rw [← HSV2.out]; exact run_valid hr q hq)
  obtain ⟨s1, hs1⟩ : ∃ s1, runTo lv ins (q + 1) = s1 := ⟨_, rfl⟩
  have H1 : Hid (toR lv ins ((q : Int) + 1) = s1) := Lib.hid (by rw [show (q : Int) + 1 = ((q + 1 : Nat) : Int) by omega, toR_nat hr (by omega)]; exact hs1)
  have H1b : Hid (toOk lv ins ((q : Int) + 1) = true) := Lib.hid (by rw [show (q : Int) + 1 = ((q + 1 : Nat) : Int) by omega]; exact toOk_nat hr (by omega))
  have HE : Hid (engOk lv sv x = true) := Lib.hid (by simp only [engOk, HV.out, hxi, Bool.true_and, Bool.not_eq_true', Bool.and_eq_false_iff, decide_eq_false_iff_not, Bool.not_eq_false']; by_cases e : sv.t = lv.ticks; (rcases hxt e with h | h; exact .inr (.inl h); exact .inr (.inr h)); exact .inl e)
  have HER : Hid (engR lv sv x = s1) := Lib.hid (by unfold engR; rw [HE.out, if_pos rfl, ← hs1, runTo_succ hx, HSV2.out])
  have HX := Lib.hid hx
  clear hx hxi hxt hs1 hqn
  go_wp2_with fail
  refine (implRunTo_any lv ins ((q : Int) + 1) B B' A2 k k' c2 _ (FD3.W.below (by (repeat (first | (with_reducible assumption) | (with_reducible exact Below.refl _ _) | (with_reducible refine below_alloc ?_ _) | (with_reducible refine below_setCell ?_ ?_ _; (simp <;> omega)) | (with_reducible refine below_drew ?_) | (with_reducible refine below_drewN ?_ _) | (with_reducible refine below_after ?_ (by assumption)))))) (FD3.G.below (by (repeat (first | (with_reducible assumption) | (with_reducible exact Below.refl _ _) | (with_reducible refine below_alloc ?_ _) | (with_reducible refine below_setCell ?_ ?_ _; (simp <;> omega)) | (with_reducible refine below_drew ?_) | (with_reducible refine below_drewN ?_ _) | (with_reducible refine below_after ?_ (by assumption)))))) FD3.e FD3.e' (by omega) (by omega) (FD3.I.below (by (repeat (first | (with_reducible assumption) | (with_reducible exact Below.refl _ _) | (with_reducible refine below_alloc ?_ _) | (with_reducible refine below_setCell ?_ ?_ _; (simp <;> omega)) | (with_reducible refine below_drew ?_) | (with_reducible refine below_drewN ?_ _) | (with_reducible refine below_after ?_ (by assumption)))))) (by omega)).mono ?_
  rw [H1.out, H1b.out]
  rintro e w4 ⟨rfl, hb4⟩
  have FD4 : Drawn lv B B' k k' ins A2 c2 w4 := Drawn.below (by (repeat (first | (with_reducible assumption) | (with_reducible refine Drawn.alloc ?_ _) | (with_reducible refine Drawn.drew ?_)))) hb4
  have FL4 : Bk w4 L 29 #[.int .i64 lv.id, .int .i64 lv.ticks, .int .i64 lv.start.x, .int .i64 lv.start.y, .slice B lv.walls.length k, .slice B' lv.gates.length k', .int .i64 lv.fin.lo.x, .int .i64 lv.fin.lo.y, .int .i64 lv.fin.hi.x, .int .i64 lv.fin.hi.y, .int .i64 lv.bans] := Bk.later (by (repeat (first | (with_reducible assumption) | (with_reducible exact Bk.new _ _ _ (by first | assumption | (simp; done) | (simp; omega))) | (with_reducible refine Bk.alloc ?_ _) | (with_reducible refine Bk.drew ?_) | (with_reducible refine Bk.drewN ?_ _) | (with_reducible apply Bk.set') | (with_reducible refine Bk.far ?_ (by first | omega | (simp; done) | (simp; omega)) _) | (exact SetTo.mk (by with_reducible rfl)) | (exact SetTo.mk (by simp))))) hb4
  have FS4 : Bk w4 S 31 #[.int .i64 sv.t, .int .i64 sv.p.x, .int .i64 sv.p.y, .int .i64 sv.f.x, .int .i64 sv.f.y, .int .i64 sv.d, .int .i64 sv.g, .bool sv.dn, .bool sv.ov] := Bk.later (by (repeat (first | (with_reducible assumption) | (with_reducible exact Bk.new _ _ _ (by first | assumption | (simp; done) | (simp; omega))) | (with_reducible refine Bk.alloc ?_ _) | (with_reducible refine Bk.drew ?_) | (with_reducible refine Bk.drewN ?_ _) | (with_reducible apply Bk.set') | (with_reducible refine Bk.far ?_ (by first | omega | (simp; done) | (simp; omega)) _) | (exact SetTo.mk (by with_reducible rfl)) | (exact SetTo.mk (by simp))))) hb4
  have d4 : Below w.heap.size w w4 := below_after (by (repeat (first | (with_reducible assumption) | (with_reducible exact Below.refl _ _) | (with_reducible refine below_alloc ?_ _) | (with_reducible refine below_setCell ?_ ?_ _; (simp <;> omega)) | (with_reducible refine below_drew ?_) | (with_reducible refine below_drewN ?_ _) | (with_reducible refine below_after ?_ (by assumption))))) hb4
  have y4 := d4.size
  have zL4 := FL4.lt
  have zS4 := FS4.lt
  clear hb4 FD3 FL3 FS3 d3 y3 zL3 zS3 cL0 cL1 cL2 cL3 cL4 cL5 cL6 cL7 cL8 cL9 cL10 cLf cS0 cS1 cS2 cS3 cS4 cS5 cS6 cS7 cS8 cSf
  obtain ⟨⟨cL0, cL1, cL2, cL3, cL4, cL5, cL6, cL7, cL8, cL9, cL10⟩, cLf⟩ := FL4.c11
  obtain ⟨⟨cS0, cS1, cS2, cS3, cS4, cS5, cS6, cS7, cS8⟩, cSf⟩ := FS4.c9
  obtain ⟨K, hK⟩ : ∃ K, w4.heap.size = K := ⟨_, rfl⟩
  have qLK : L < K := by omega
  have qSK : S < K := by omega
  obtain ⟨b, off, x2, hA2, hbl, hx2, hcx⟩ := FD4.I.at_ hql
  rw [HX.out] at hx2
  injection hx2 with hx2
  subst hx2
  have q0 : w4.cell? ⟨b, off + q * 3, none⟩ = some (.int .i64 x.s) := hcx 0 _ rfl
  have q1 : w4.cell? ⟨b, off + q * 3 + 1, none⟩ = some (.int .i64 x.p) := hcx 1 _ rfl
  have q2 : w4.cell? ⟨b, off + q * 3 + 2, none⟩ = some (.bool x.z) := hcx 2 _ rfl
  have hqi : (q : Int) < (ins.length : Int) := by omega
  subst hA2
  clear hcx
  go_wp2
  go_region_held3 (fun w' => (w'.cell? ⟨L, 0, none⟩ = some (.int .i64 lv.id) ∧ w'.cell? ⟨L, 1, none⟩ = some (.int .i64 lv.ticks) ∧ w'.cell? ⟨L, 2, none⟩ = some (.int .i64 lv.start.x) ∧ w'.cell? ⟨L, 3, none⟩ = some (.int .i64 lv.start.y) ∧ w'.cell? ⟨L, 4, none⟩ = some (.slice B lv.walls.length k) ∧ w'.cell? ⟨L, 5, none⟩ = some (.slice B' lv.gates.length k') ∧ w'.cell? ⟨L, 6, none⟩ = some (.int .i64 lv.fin.lo.x) ∧ w'.cell? ⟨L, 7, none⟩ = some (.int .i64 lv.fin.lo.y) ∧ w'.cell? ⟨L, 8, none⟩ = some (.int .i64 lv.fin.hi.x) ∧ w'.cell? ⟨L, 9, none⟩ = some (.int .i64 lv.fin.hi.y) ∧ w'.cell? ⟨L, 10, none⟩ = some (.int .i64 lv.bans)) ∧ (w'.cell? ⟨S, 0, none⟩ = some (.int .i64 sv.t) ∧ w'.cell? ⟨S, 1, none⟩ = some (.int .i64 sv.p.x) ∧ w'.cell? ⟨S, 2, none⟩ = some (.int .i64 sv.p.y) ∧ w'.cell? ⟨S, 3, none⟩ = some (.int .i64 sv.f.x) ∧ w'.cell? ⟨S, 4, none⟩ = some (.int .i64 sv.f.y) ∧ w'.cell? ⟨S, 5, none⟩ = some (.int .i64 sv.d) ∧ w'.cell? ⟨S, 6, none⟩ = some (.int .i64 sv.g) ∧ w'.cell? ⟨S, 7, none⟩ = some (.bool sv.dn) ∧ w'.cell? ⟨S, 8, none⟩ = some (.bool sv.ov)) ∧ (w'.cell? ⟨b, off + q * 3, none⟩ = some (.int .i64 x.s) ∧ w'.cell? ⟨b, off + q * 3 + 1, none⟩ = some (.int .i64 x.p) ∧ w'.cell? ⟨b, off + q * 3 + 2, none⟩ = some (.bool x.z)))
    (with_reducible exact ⟨keepLv FL4 (by (repeat (first | (with_reducible assumption) | (with_reducible exact Below.refl _ _) | (with_reducible refine below_alloc ?_ _) | (with_reducible refine below_setCell ?_ ?_ _; (simp <;> omega)) | (with_reducible refine below_drew ?_) | (with_reducible refine below_drewN ?_ _) | (with_reducible refine below_after ?_ (by assumption))))), keepS9 FS4 (by (repeat (first | (with_reducible assumption) | (with_reducible exact Below.refl _ _) | (with_reducible refine below_alloc ?_ _) | (with_reducible refine below_setCell ?_ ?_ _; (simp <;> omega)) | (with_reducible refine below_drew ?_) | (with_reducible refine below_drewN ?_ _) | (with_reducible refine below_after ?_ (by assumption))))), keepC3 q0 q1 q2 hbl hbl hbl (by (repeat (first | (with_reducible assumption) | (with_reducible exact Below.refl _ _) | (with_reducible refine below_alloc ?_ _) | (with_reducible refine below_setCell ?_ ?_ _; (simp <;> omega)) | (with_reducible refine below_drew ?_) | (with_reducible refine below_drewN ?_ _) | (with_reducible refine below_after ?_ (by assumption)))))⟩)
    ((go_at_call 26; refine (implEngineStep_any lv sv x B B' k k' _ (FD4.W.below (by (repeat (first | (with_reducible assumption) | (with_reducible exact Below.refl _ _) | (with_reducible refine below_alloc ?_ _) | (with_reducible refine below_setCell ?_ ?_ _; (simp <;> omega)) | (with_reducible refine below_drew ?_) | (with_reducible refine below_drewN ?_ _) | (with_reducible refine below_after ?_ (by assumption)))))) (FD4.G.below (by (repeat (first | (with_reducible assumption) | (with_reducible exact Below.refl _ _) | (with_reducible refine below_alloc ?_ _) | (with_reducible refine below_setCell ?_ ?_ _; (simp <;> omega)) | (with_reducible refine below_drew ?_) | (with_reducible refine below_drewN ?_ _) | (with_reducible refine below_after ?_ (by assumption)))))) FD4.e FD4.e' (by omega) (by omega)).mono ?_; rw [HE.out, HER.out]; rintro e w5 ⟨rfl, hb5⟩; obtain ⟨hc5, hf5⟩ := bcell hb5; have hz5 := hb5.size; simp only [World.size_alloc, World.size_drew] at hz5))
  all_goals
    have FK5 : Bk w5 K 31 #[.int .i64 s1.t, .int .i64 s1.p.x, .int .i64 s1.p.y, .int .i64 s1.f.x, .int .i64 s1.f.y, .int .i64 s1.d, .int .i64 s1.g, .bool s1.dn, .bool s1.ov] := Bk.later (by (repeat (first | (with_reducible assumption) | (with_reducible exact Bk.new _ _ _ (by first | assumption | (simp; done) | (simp; omega))) | (with_reducible refine Bk.alloc ?_ _) | (with_reducible refine Bk.drew ?_) | (with_reducible refine Bk.drewN ?_ _) | (with_reducible apply Bk.set') | (with_reducible refine Bk.far ?_ (by first | omega | (simp; done) | (simp; omega)) _) | (exact SetTo.mk (by with_reducible rfl)) | (exact SetTo.mk (by simp))))) hb5
    have dd5 : Below w.heap.size w w5 := below_after (by (repeat (first | (with_reducible assumption) | (with_reducible exact Below.refl _ _) | (with_reducible refine below_alloc ?_ _) | (with_reducible refine below_setCell ?_ ?_ _; (simp <;> omega)) | (with_reducible refine below_drew ?_) | (with_reducible refine below_drewN ?_ _) | (with_reducible refine below_after ?_ (by assumption))))) hb5
    have zK5 := FK5.lt
    clear hc5 hf5
    first
    | (refine ex_world (fun W => Bk W K 31 #[.int .i64 s1.t, .int .i64 s1.p.x, .int .i64 s1.p.y, .int .i64 s1.f.x, .int .i64 s1.f.y, .int .i64 s1.d, .int .i64 s1.g, .bool s1.dn, .bool s1.ov] ∧ Bk W w5.heap.size 31 #[.int .i64 s1.t, .int .i64 s1.p.x, .int .i64 s1.p.y, .int .i64 s1.f.x, .int .i64 s1.f.y, .int .i64 s1.d, .int .i64 s1.g, .bool s1.dn, .bool s1.ov] ∧ Below w.heap.size w W) ⟨(by (repeat (first | (with_reducible assumption) | (with_reducible exact Bk.new _ _ _ (by first | assumption | (simp; done) | (simp; omega))) | (with_reducible refine Bk.alloc ?_ _) | (with_reducible refine Bk.drew ?_) | (with_reducible refine Bk.drewN ?_ _) | (with_reducible apply Bk.set') | (with_reducible refine Bk.far ?_ (by first | omega | (simp; done) | (simp; omega)) _) | (exact SetTo.mk (by with_reducible rfl)) | (exact SetTo.mk (by simp)))); done), (by (repeat (first | (with_reducible assumption) | (with_reducible exact Bk.new _ _ _ (by first | assumption | (simp; done) | (simp; omega))) | (with_reducible refine Bk.alloc ?_ _) | (with_reducible refine Bk.drew ?_) | (with_reducible refine Bk.drewN ?_ _) | (with_reducible apply Bk.set') | (with_reducible refine Bk.far ?_ (by first | omega | (simp; done) | (simp; omega)) _) | (exact SetTo.mk (by with_reducible rfl)) | (exact SetTo.mk (by simp)))); done), (by (repeat (first | (with_reducible assumption) | (with_reducible exact Below.refl _ _) | (with_reducible refine below_alloc ?_ _) | (with_reducible refine below_setCell ?_ ?_ _; (simp <;> omega)) | (with_reducible refine below_drew ?_) | (with_reducible refine below_drewN ?_ _) | (with_reducible refine below_after ?_ (by assumption)))); done)⟩ ?_; rintro W ⟨KW, JW, dW⟩; clear FK5 dd5; obtain ⟨⟨cK0, cK1, cK2, cK3, cK4, cK5, cK6, cK7, cK8⟩, cKf⟩ := KW.c9; obtain ⟨⟨cJ0, cJ1, cJ2, cJ3, cJ4, cJ5, cJ6, cJ7, cJ8⟩, cJf⟩ := JW.c9; have zKW := KW.lt; have zJW := JW.lt; go_wp2; go_ret; exact ⟨rfl, dW⟩)
    | (have J5 : Bk w5 (K + 1) 31 #[.int .i64 0, .int .i64 0, .int .i64 0, .int .i64 0, .int .i64 0, .int .i64 0, .int .i64 0, .bool false, .bool false] := Bk.later (by (repeat (first | (with_reducible assumption) | (with_reducible exact Bk.new _ _ _ (by first | assumption | (simp; done) | (simp; omega))) | (with_reducible refine Bk.alloc ?_ _) | (with_reducible refine Bk.drew ?_) | (with_reducible refine Bk.drewN ?_ _) | (with_reducible apply Bk.set') | (with_reducible refine Bk.far ?_ (by first | omega | (simp; done) | (simp; omega)) _) | (exact SetTo.mk (by with_reducible rfl)) | (exact SetTo.mk (by simp))))) hb5; refine ex_world (fun W => Bk W K 31 #[.int .i64 s1.t, .int .i64 s1.p.x, .int .i64 s1.p.y, .int .i64 s1.f.x, .int .i64 s1.f.y, .int .i64 s1.d, .int .i64 s1.g, .bool s1.dn, .bool s1.ov] ∧ Bk W (K + 1) 31 #[.int .i64 s1.t, .int .i64 s1.p.x, .int .i64 s1.p.y, .int .i64 s1.f.x, .int .i64 s1.f.y, .int .i64 s1.d, .int .i64 s1.g, .bool s1.dn, .bool s1.ov] ∧ Below w.heap.size w W) ⟨(by (repeat (first | (with_reducible assumption) | (with_reducible exact Bk.new _ _ _ (by first | assumption | (simp; done) | (simp; omega))) | (with_reducible refine Bk.alloc ?_ _) | (with_reducible refine Bk.drew ?_) | (with_reducible refine Bk.drewN ?_ _) | (with_reducible apply Bk.set') | (with_reducible refine Bk.far ?_ (by first | omega | (simp; done) | (simp; omega)) _) | (exact SetTo.mk (by with_reducible rfl)) | (exact SetTo.mk (by simp)))); done), (by (repeat (first | (with_reducible assumption) | (with_reducible exact Bk.new _ _ _ (by first | assumption | (simp; done) | (simp; omega))) | (with_reducible refine Bk.alloc ?_ _) | (with_reducible refine Bk.drew ?_) | (with_reducible refine Bk.drewN ?_ _) | (with_reducible apply Bk.set') | (with_reducible refine Bk.far ?_ (by first | omega | (simp; done) | (simp; omega)) _) | (exact SetTo.mk (by with_reducible rfl)) | (exact SetTo.mk (by simp)))); done), (by (repeat (first | (with_reducible assumption) | (with_reducible exact Below.refl _ _) | (with_reducible refine below_alloc ?_ _) | (with_reducible refine below_setCell ?_ ?_ _; (simp <;> omega)) | (with_reducible refine below_drew ?_) | (with_reducible refine below_drewN ?_ _) | (with_reducible refine below_after ?_ (by assumption)))); done)⟩ ?_; clear J5; rintro W ⟨KW, JW, dW⟩; clear FK5 dd5; obtain ⟨⟨cK0, cK1, cK2, cK3, cK4, cK5, cK6, cK7, cK8⟩, cKf⟩ := KW.c9; obtain ⟨⟨cJ0, cJ1, cJ2, cJ3, cJ4, cJ5, cJ6, cJ7, cJ8⟩, cJf⟩ := JW.c9; have zKW := KW.lt; have zJW := JW.lt; go_wp2; go_ret; exact ⟨rfl, dW⟩)
end Go.Proofs.Ytmfhfebakdkkdaa
