/- RunScore of the program, RunTo of the reference. (Round B) -/
import Derived.Test.YtmfhfebakdkkdaaImpN
import Derived.Test.YtmfhfebakdkkdaaSpecJ
namespace Go.Proofs.Ytmfhfebakdkkdaa
open Go.ChangeShapes Go.WideShapes Go.ChangeAt Go.RowKit
theorem toOk_len (l : Lev) (ins : List Inp) : toOk l ins ins.length = runOk l ins := by
  unfold toOk
  rw [show inR 0 (ins.length : Int) (ins.length : Int) = true from inR_iff.2 ⟨by omega, by omega⟩, Bool.and_true]
theorem toR_len (l : Lev) (ins : List Inp) (h : runOk l ins = true) : toR l ins ins.length = runTo l ins ins.length := by
  unfold toR
  rw [toOk_len, h, if_pos rfl, Int.toNat_natCast]
set_option maxRecDepth 100000 in
theorem implRunScore_any (l : Lev) (ins : List Inp) (A A' A2 : Option Addr) (c c' c2 : Nat) (w : World) (h : Sl w 4 encBx A l.walls.length l.walls) (hg : Sl w 4 encBx A' l.gates.length l.gates) (e : A = none → c = 0) (e' : A' = none → c' = 0) (hn1 : (l.walls.length : Nat) ≤ 9223372036854775807) (hn2 : (l.gates.length : Nat) ≤ 9223372036854775807) (hs : Sl w 3 encInp A2 ins.length ins) (hn3 : (ins.length : Nat) ≤ 9223372036854775807) :
    Calls Try.prog 36 #[.agg #[.int .i64 l.id, .int .i64 l.ticks, .int .i64 l.start.x, .int .i64 l.start.y, .slice A l.walls.length c, .slice A' l.gates.length c', .int .i64 l.fin.lo.x, .int .i64 l.fin.lo.y, .int .i64 l.fin.hi.x, .int .i64 l.fin.hi.y, .int .i64 l.bans], .slice A2 ins.length c2] w fun e w' => e = .returned (.int .i64 (scoreR l ins)) ∧ Below w.heap.size w w' := by
  rcases Bool.eq_false_or_eq_true (runOk l ins) with hr | hr
  · have HS : Hid (scoreR l ins = if (runTo l ins ins.length).dn then (runTo l ins ins.length).t else -1) := Lib.hid (by unfold scoreR; rw [hr]; rfl)
    go_enter Try.func36, Try.ntmps36
    go_wp2_with fail
    refine (implRunTo_any l ins ins.length A A' A2 c c' c2 _ (h.below (by (repeat (first | (with_reducible assumption) | (with_reducible exact Below.refl _ _) | (with_reducible refine below_alloc ?_ _) | (with_reducible refine below_setCell ?_ ?_ _; (simp <;> omega)) | (with_reducible refine below_drew ?_) | (with_reducible refine below_drewN ?_ _) | (with_reducible refine below_after ?_ (by assumption)))))) (hg.below (by (repeat (first | (with_reducible assumption) | (with_reducible exact Below.refl _ _) | (with_reducible refine below_alloc ?_ _) | (with_reducible refine below_setCell ?_ ?_ _; (simp <;> omega)) | (with_reducible refine below_drew ?_) | (with_reducible refine below_drewN ?_ _) | (with_reducible refine below_after ?_ (by assumption)))))) e e' hn1 hn2 (hs.below (by (repeat (first | (with_reducible assumption) | (with_reducible exact Below.refl _ _) | (with_reducible refine below_alloc ?_ _) | (with_reducible refine below_setCell ?_ ?_ _; (simp <;> omega)) | (with_reducible refine below_drew ?_) | (with_reducible refine below_drewN ?_ _) | (with_reducible refine below_after ?_ (by assumption)))))) hn3).mono ?_
    rw [toOk_len, toR_len l ins hr, hr]
    generalize runTo l ins ins.length = s at *
    rintro e w1 ⟨rfl, hb1⟩
    obtain ⟨t, p, f, d, g, dn, ov⟩ := s
    simp only at *
    cases dn
    · go_wp2
      go_ret
      exact ⟨ret_int (by rw [HS.out]; rfl), by (repeat (first | (with_reducible assumption) | (with_reducible exact Below.refl _ _) | (with_reducible refine below_alloc ?_ _) | (with_reducible refine below_setCell ?_ ?_ _; (simp <;> omega)) | (with_reducible refine below_drew ?_) | (with_reducible refine below_drewN ?_ _) | (with_reducible refine below_after ?_ (by assumption))))⟩
    · go_wp2
      go_ret
      exact ⟨ret_int (by rw [HS.out]; rfl), by (repeat (first | (with_reducible assumption) | (with_reducible exact Below.refl _ _) | (with_reducible refine below_alloc ?_ _) | (with_reducible refine below_setCell ?_ ?_ _; (simp <;> omega)) | (with_reducible refine below_drew ?_) | (with_reducible refine below_drewN ?_ _) | (with_reducible refine below_after ?_ (by assumption))))⟩
  · have HS : Hid (scoreR l ins = -1) := Lib.hid (by unfold scoreR; rw [hr]; rfl)
    go_enter Try.func36, Try.ntmps36
    go_wp2_with fail
    refine (implRunTo_any l ins ins.length A A' A2 c c' c2 _ (h.below (by (repeat (first | (with_reducible assumption) | (with_reducible exact Below.refl _ _) | (with_reducible refine below_alloc ?_ _) | (with_reducible refine below_setCell ?_ ?_ _; (simp <;> omega)) | (with_reducible refine below_drew ?_) | (with_reducible refine below_drewN ?_ _) | (with_reducible refine below_after ?_ (by assumption)))))) (hg.below (by (repeat (first | (with_reducible assumption) | (with_reducible exact Below.refl _ _) | (with_reducible refine below_alloc ?_ _) | (with_reducible refine below_setCell ?_ ?_ _; (simp <;> omega)) | (with_reducible refine below_drew ?_) | (with_reducible refine below_drewN ?_ _) | (with_reducible refine below_after ?_ (by assumption)))))) e e' hn1 hn2 (hs.below (by (repeat (first | (with_reducible assumption) | (with_reducible exact Below.refl _ _) | (with_reducible refine below_alloc ?_ _) | (with_reducible refine below_setCell ?_ ?_ _; (simp <;> omega)) | (with_reducible refine below_drew ?_) | (with_reducible refine below_drewN ?_ _) | (with_reducible refine below_after ?_ (by assumption)))))) hn3).mono ?_
    rw [toOk_len, hr]
    generalize toR l ins ins.length = s
    rintro e w1 ⟨rfl, hb1⟩
    go_wp2
    go_ret
    exact ⟨ret_int HS.out.symm, by (repeat (first | (with_reducible assumption) | (with_reducible exact Below.refl _ _) | (with_reducible refine below_alloc ?_ _) | (with_reducible refine below_setCell ?_ ?_ _; (simp <;> omega)) | (with_reducible refine below_drew ?_) | (with_reducible refine below_drewN ?_ _) | (with_reducible refine below_after ?_ (by assumption))))⟩
set_option maxRecDepth 100000 in
theorem specRunTo_any (l : Lev) (ins : List Inp) (n : Int) (A A' A2 : Option Addr) (c c' c2 : Nat) (w : World) (h : Sl w 4 encBx A l.walls.length l.walls) (hg : Sl w 4 encBx A' l.gates.length l.gates) (hs : Sl w 3 encInp A2 ins.length ins)
    (hn : (l.walls.length : Nat) ≤ 9223372036854775807) (hn' : (l.gates.length : Nat) ≤ 9223372036854775807) (hni : (ins.length : Nat) ≤ 9223372036854775807) : Calls Try.prog 41 #[.agg #[.int .i64 l.id, .int .i64 l.ticks, .int .i64 l.start.x, .int .i64 l.start.y, .slice A l.walls.length c, .slice A' l.gates.length c', .int .i64 l.fin.lo.x, .int .i64 l.fin.lo.y, .int .i64 l.fin.hi.x, .int .i64 l.fin.hi.y, .int .i64 l.bans], .slice A2 ins.length c2, .int .i64 n] w fun e w' => e = .returned (.tuple #[.agg #[.int .i64 (toR l ins n).t, .int .i64 (toR l ins n).p.x, .int .i64 (toR l ins n).p.y, .int .i64 (toR l ins n).f.x, .int .i64 (toR l ins n).f.y, .int .i64 (toR l ins n).d, .int .i64 (toR l ins n).g, .bool (toR l ins n).dn, .bool (toR l ins n).ov], .bool (toOk l ins n)]) ∧ Below w.heap.size w w' := by
  rcases Bool.eq_false_or_eq_true (runOk l ins) with hr | hr
  · obtain ⟨hL, hl60, _, _, hx⟩ := runOk_bd hr
    rcases Bool.eq_false_or_eq_true (inR 0 ins.length n) with hi | hi
    · obtain ⟨i0, i1⟩ := inR_iff.1 hi
      obtain ⟨k, rfl⟩ := Int.eq_ofNat_of_zero_le i0
      have hok : toOk l ins (k : Int) = true := by unfold toOk; rw [hr, hi]; rfl
      have hto : toR l ins (k : Int) = runTo l ins k := by unfold toR; rw [hok, if_pos rfl, Int.toNat_natCast]
      rw [hok, hto]
      clear hok hto
      obtain ⟨v, hv⟩ : ∃ v, runTo l ins k = v := ⟨_, rfl⟩
      rw [hv]
      have HV := Lib.hid hv
      clear hv
      go_enter Try.func41, Try.ntmps41
      go_wp2_with fail
      refine (l21Ok_any l ins _ _ _ _ _ _ _ (h.below (by (repeat (first | (with_reducible assumption) | (with_reducible exact Below.refl _ _) | (with_reducible refine below_alloc ?_ _) | (with_reducible refine below_setCell ?_ ?_ _; (simp <;> omega)) | (with_reducible refine below_drew ?_) | (with_reducible refine below_drewN ?_ _) | (with_reducible refine below_after ?_ (by assumption)))))) (hg.below (by (repeat (first | (with_reducible assumption) | (with_reducible exact Below.refl _ _) | (with_reducible refine below_alloc ?_ _) | (with_reducible refine below_setCell ?_ ?_ _; (simp <;> omega)) | (with_reducible refine below_drew ?_) | (with_reducible refine below_drewN ?_ _) | (with_reducible refine below_after ?_ (by assumption)))))) (hs.below (by (repeat (first | (with_reducible assumption) | (with_reducible exact Below.refl _ _) | (with_reducible refine below_alloc ?_ _) | (with_reducible refine below_setCell ?_ ?_ _; (simp <;> omega)) | (with_reducible refine below_drew ?_) | (with_reducible refine below_drewN ?_ _) | (with_reducible refine below_after ?_ (by assumption)))))) hn hn' hni).mono ?_
      rw [hr]
      rintro e w1 ⟨rfl, hb1⟩
      have L1 : Bk w1 w.heap.size 29 #[.int .i64 l.id, .int .i64 l.ticks, .int .i64 l.start.x, .int .i64 l.start.y, .slice A l.walls.length c, .slice A' l.gates.length c', .int .i64 l.fin.lo.x, .int .i64 l.fin.lo.y, .int .i64 l.fin.hi.x, .int .i64 l.fin.hi.y, .int .i64 l.bans] := Bk.later (by (repeat (first | (with_reducible assumption) | (with_reducible exact Bk.new _ _ _ (by simp; done)) | (with_reducible refine Bk.alloc ?_ _) | (with_reducible refine Bk.drew ?_) | (with_reducible refine Bk.drewN ?_ _) | (with_reducible apply Bk.set') | (with_reducible refine Bk.far ?_ (by first | omega | (simp; done) | (simp; omega)) _) | (with_reducible refine Bk.later ?_ (by assumption)) | (with_reducible refine Bk.grown ?_ (by assumption) (by first | omega | (simp; done) | (simp; omega))) | (exact SetTo.mk (by with_reducible rfl)) | (exact SetTo.mk (by simp))))) hb1
      have R1 : Bk w1 (w.heap.size + 1) 31 #[.int .i64 0, .int .i64 0, .int .i64 0, .int .i64 0, .int .i64 0, .int .i64 0, .int .i64 0, .bool false, .bool false] := Bk.later (by (repeat (first | (with_reducible assumption) | (with_reducible exact Bk.new _ _ _ (by simp; done)) | (with_reducible refine Bk.alloc ?_ _) | (with_reducible refine Bk.drew ?_) | (with_reducible refine Bk.drewN ?_ _) | (with_reducible apply Bk.set') | (with_reducible refine Bk.far ?_ (by first | omega | (simp; done) | (simp; omega)) _) | (with_reducible refine Bk.later ?_ (by assumption)) | (with_reducible refine Bk.grown ?_ (by assumption) (by first | omega | (simp; done) | (simp; omega))) | (exact SetTo.mk (by with_reducible rfl)) | (exact SetTo.mk (by simp))))) hb1
      have d1 : Below w.heap.size w w1 := by (repeat (first | (with_reducible assumption) | (with_reducible exact Below.refl _ _) | (with_reducible refine below_alloc ?_ _) | (with_reducible refine below_setCell ?_ ?_ _; (simp <;> omega)) | (with_reducible refine below_drew ?_) | (with_reducible refine below_drewN ?_ _) | (with_reducible refine below_after ?_ (by assumption))))
      clear hb1
      obtain ⟨⟨l0, l1, l2, l3, l4, l5, l6, l7, l8, l9, l10⟩, lf⟩ := L1.c11
      go_wp2_with fail
      refine (l6In_r _ _ _ _).mono ?_
      rw [hi]
      rintro e w0 ⟨rfl, rfl⟩
      go_wp2_with fail
      refine (l21To_any l ins k _ _ _ _ _ _ _ (h.below (by (repeat (first | (with_reducible assumption) | (with_reducible exact Below.refl _ _) | (with_reducible refine below_alloc ?_ _) | (with_reducible refine below_setCell ?_ ?_ _; (simp <;> omega)) | (with_reducible refine below_drew ?_) | (with_reducible refine below_drewN ?_ _) | (with_reducible refine below_after ?_ (by assumption)))))) (hg.below (by (repeat (first | (with_reducible assumption) | (with_reducible exact Below.refl _ _) | (with_reducible refine below_alloc ?_ _) | (with_reducible refine below_setCell ?_ ?_ _; (simp <;> omega)) | (with_reducible refine below_drew ?_) | (with_reducible refine below_drewN ?_ _) | (with_reducible refine below_after ?_ (by assumption)))))) (hs.below (by (repeat (first | (with_reducible assumption) | (with_reducible exact Below.refl _ _) | (with_reducible refine below_alloc ?_ _) | (with_reducible refine below_setCell ?_ ?_ _; (simp <;> omega)) | (with_reducible refine below_drew ?_) | (with_reducible refine below_drewN ?_ _) | (with_reducible refine below_after ?_ (by assumption)))))) hL (by omega) (by omega) hx).mono ?_
      rw [HV.out]
      rintro e w2 ⟨rfl, hb2⟩
      have R2 := R1.later hb2
      have d2 : Below w.heap.size w w2 := by (repeat (first | (with_reducible assumption) | (with_reducible exact Below.refl _ _) | (with_reducible refine below_alloc ?_ _) | (with_reducible refine below_setCell ?_ ?_ _; (simp <;> omega)) | (with_reducible refine below_drew ?_) | (with_reducible refine below_drewN ?_ _) | (with_reducible refine below_after ?_ (by assumption))))
      clear hb2 l0 l1 l2 l3 l4 l5 l6 l7 l8 l9 l10 lf
      obtain ⟨⟨r0, r1, r2, r3, r4, r5, r6, r7, r8⟩, rf⟩ := R2.c9
      go_wp2
      refine bodyPost_ret (v := .tuple #[.agg #[.int .i64 v.t, .int .i64 v.p.x, .int .i64 v.p.y, .int .i64 v.f.x, .int .i64 v.f.y, .int .i64 v.d, .int .i64 v.g, .bool v.dn, .bool v.ov], .bool true]) (by simp [results, Try.results41, go_sem, *]) rfl ⟨rfl, by (repeat (first | (with_reducible assumption) | (with_reducible exact Below.refl _ _) | (with_reducible refine below_alloc ?_ _) | (with_reducible refine below_setCell ?_ ?_ _; (simp <;> omega)) | (with_reducible refine below_drew ?_) | (with_reducible refine below_drewN ?_ _) | (with_reducible refine below_after ?_ (by assumption))))⟩
    · have hok : toOk l ins n = false := by unfold toOk; rw [hr, hi]; rfl
      have hto : toR l ins n = zeroSt := by unfold toR; rw [hok]; rfl
      rw [hok, hto]
      clear hok hto
      go_enter Try.func41, Try.ntmps41
      go_wp2_with fail
      refine (l21Ok_any l ins _ _ _ _ _ _ _ (h.below (by (repeat (first | (with_reducible assumption) | (with_reducible exact Below.refl _ _) | (with_reducible refine below_alloc ?_ _) | (with_reducible refine below_setCell ?_ ?_ _; (simp <;> omega)) | (with_reducible refine below_drew ?_) | (with_reducible refine below_drewN ?_ _) | (with_reducible refine below_after ?_ (by assumption)))))) (hg.below (by (repeat (first | (with_reducible assumption) | (with_reducible exact Below.refl _ _) | (with_reducible refine below_alloc ?_ _) | (with_reducible refine below_setCell ?_ ?_ _; (simp <;> omega)) | (with_reducible refine below_drew ?_) | (with_reducible refine below_drewN ?_ _) | (with_reducible refine below_after ?_ (by assumption)))))) (hs.below (by (repeat (first | (with_reducible assumption) | (with_reducible exact Below.refl _ _) | (with_reducible refine below_alloc ?_ _) | (with_reducible refine below_setCell ?_ ?_ _; (simp <;> omega)) | (with_reducible refine below_drew ?_) | (with_reducible refine below_drewN ?_ _) | (with_reducible refine below_after ?_ (by assumption)))))) hn hn' hni).mono ?_
      rw [hr]
      rintro e w1 ⟨rfl, hb1⟩
      have R1 : Bk w1 (w.heap.size + 1) 31 #[.int .i64 0, .int .i64 0, .int .i64 0, .int .i64 0, .int .i64 0, .int .i64 0, .int .i64 0, .bool false, .bool false] := Bk.later (by (repeat (first | (with_reducible assumption) | (with_reducible exact Bk.new _ _ _ (by simp; done)) | (with_reducible refine Bk.alloc ?_ _) | (with_reducible refine Bk.drew ?_) | (with_reducible refine Bk.drewN ?_ _) | (with_reducible apply Bk.set') | (with_reducible refine Bk.far ?_ (by first | omega | (simp; done) | (simp; omega)) _) | (with_reducible refine Bk.later ?_ (by assumption)) | (with_reducible refine Bk.grown ?_ (by assumption) (by first | omega | (simp; done) | (simp; omega))) | (exact SetTo.mk (by with_reducible rfl)) | (exact SetTo.mk (by simp))))) hb1
      have d1 : Below w.heap.size w w1 := by (repeat (first | (with_reducible assumption) | (with_reducible exact Below.refl _ _) | (with_reducible refine below_alloc ?_ _) | (with_reducible refine below_setCell ?_ ?_ _; (simp <;> omega)) | (with_reducible refine below_drew ?_) | (with_reducible refine below_drewN ?_ _) | (with_reducible refine below_after ?_ (by assumption))))
      clear hb1
      obtain ⟨⟨r0, r1, r2, r3, r4, r5, r6, r7, r8⟩, rf⟩ := R1.c9
      go_wp2_with (go_at_call 95; refine (l6In_r _ _ _ _).mono ?_; rw [hi]; rintro e w0 ⟨rfl, rfl⟩)
      refine bodyPost_ret (v := .tuple #[.agg #[.int .i64 zeroSt.t, .int .i64 zeroSt.p.x, .int .i64 zeroSt.p.y, .int .i64 zeroSt.f.x, .int .i64 zeroSt.f.y, .int .i64 zeroSt.d, .int .i64 zeroSt.g, .bool zeroSt.dn, .bool zeroSt.ov], .bool false]) (by simp [results, Try.results41, go_sem, zeroSt, *]) rfl ⟨rfl, by (repeat (first | (with_reducible assumption) | (with_reducible exact Below.refl _ _) | (with_reducible refine below_alloc ?_ _) | (with_reducible refine below_setCell ?_ ?_ _; (simp <;> omega)) | (with_reducible refine below_drew ?_) | (with_reducible refine below_drewN ?_ _) | (with_reducible refine below_after ?_ (by assumption))))⟩
  · have hok : toOk l ins n = false := by unfold toOk; rw [hr]; rfl
    have hto : toR l ins n = zeroSt := by unfold toR; rw [hok]; rfl
    rw [hok, hto]
    clear hok hto
    go_enter Try.func41, Try.ntmps41
    go_wp2_with fail
    refine (l21Ok_any l ins _ _ _ _ _ _ _ (h.below (by (repeat (first | (with_reducible assumption) | (with_reducible exact Below.refl _ _) | (with_reducible refine below_alloc ?_ _) | (with_reducible refine below_setCell ?_ ?_ _; (simp <;> omega)) | (with_reducible refine below_drew ?_) | (with_reducible refine below_drewN ?_ _) | (with_reducible refine below_after ?_ (by assumption)))))) (hg.below (by (repeat (first | (with_reducible assumption) | (with_reducible exact Below.refl _ _) | (with_reducible refine below_alloc ?_ _) | (with_reducible refine below_setCell ?_ ?_ _; (simp <;> omega)) | (with_reducible refine below_drew ?_) | (with_reducible refine below_drewN ?_ _) | (with_reducible refine below_after ?_ (by assumption)))))) (hs.below (by (repeat (first | (with_reducible assumption) | (with_reducible exact Below.refl _ _) | (with_reducible refine below_alloc ?_ _) | (with_reducible refine below_setCell ?_ ?_ _; (simp <;> omega)) | (with_reducible refine below_drew ?_) | (with_reducible refine below_drewN ?_ _) | (with_reducible refine below_after ?_ (by assumption)))))) hn hn' hni).mono ?_
    rw [hr]
    rintro e w1 ⟨rfl, hb1⟩
    have R1 : Bk w1 (w.heap.size + 1) 31 #[.int .i64 0, .int .i64 0, .int .i64 0, .int .i64 0, .int .i64 0, .int .i64 0, .int .i64 0, .bool false, .bool false] := Bk.later (by (repeat (first | (with_reducible assumption) | (with_reducible exact Bk.new _ _ _ (by simp; done)) | (with_reducible refine Bk.alloc ?_ _) | (with_reducible refine Bk.drew ?_) | (with_reducible refine Bk.drewN ?_ _) | (with_reducible apply Bk.set') | (with_reducible refine Bk.far ?_ (by first | omega | (simp; done) | (simp; omega)) _) | (with_reducible refine Bk.later ?_ (by assumption)) | (with_reducible refine Bk.grown ?_ (by assumption) (by first | omega | (simp; done) | (simp; omega))) | (exact SetTo.mk (by with_reducible rfl)) | (exact SetTo.mk (by simp))))) hb1
    have d1 : Below w.heap.size w w1 := by (repeat (first | (with_reducible assumption) | (with_reducible exact Below.refl _ _) | (with_reducible refine below_alloc ?_ _) | (with_reducible refine below_setCell ?_ ?_ _; (simp <;> omega)) | (with_reducible refine below_drew ?_) | (with_reducible refine below_drewN ?_ _) | (with_reducible refine below_after ?_ (by assumption))))
    clear hb1
    obtain ⟨⟨r0, r1, r2, r3, r4, r5, r6, r7, r8⟩, rf⟩ := R1.c9
    go_wp2
    refine bodyPost_ret (v := .tuple #[.agg #[.int .i64 zeroSt.t, .int .i64 zeroSt.p.x, .int .i64 zeroSt.p.y, .int .i64 zeroSt.f.x, .int .i64 zeroSt.f.y, .int .i64 zeroSt.d, .int .i64 zeroSt.g, .bool zeroSt.dn, .bool zeroSt.ov], .bool false]) (by simp [results, Try.results41, go_sem, zeroSt, *]) rfl ⟨rfl, by (repeat (first | (with_reducible assumption) | (with_reducible exact Below.refl _ _) | (with_reducible refine below_alloc ?_ _) | (with_reducible refine below_setCell ?_ ?_ _; (simp <;> omega)) | (with_reducible refine below_drew ?_) | (with_reducible refine below_drewN ?_ _) | (with_reducible refine below_after ?_ (by assumption))))⟩
end Go.Proofs.Ytmfhfebakdkkdaa
