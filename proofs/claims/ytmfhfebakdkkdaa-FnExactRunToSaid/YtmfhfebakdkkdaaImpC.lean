/- The program's VecClamp, and how fast a car gets. (Round B) -/
import Derived.Test.YtmfhfebakdkkdaaImpB
import Derived.Test.YtmfhfebakdkkdaaSpecC
namespace Go.Proofs.Ytmfhfebakdkkdaa
open Go.ChangeShapes Go.WideShapes Go.ChangeAt Go.RowKit
set_option maxRecDepth 100000 in
theorem implVecClamp_yes (v : V2) (m : Int) (w : World) (hv : -100000 ≤ v.x ∧ v.x ≤ 100000 ∧ -100000 ≤ v.y ∧ v.y ≤ 100000) (m0 : 0 ≤ m) (m1 : m ≤ 1000000) :
    Calls Try.prog 148 #[.agg #[.int .i64 v.x, .int .i64 v.y], .int .i64 m] w fun e w' => e = .returned (.tuple #[.agg #[.int .i64 (clampV v m).x, .int .i64 (clampV v m).y], .bool true]) ∧ Below w.heap.size w w' := by
  obtain ⟨a1, a2, a3, a4⟩ := hv
  have hvk : vOk v = true := vOk_iff.2 (by omega)
  have hl := lenV_nn v
  have hin : inR 0 1000000 m = true := inR_iff.2 ⟨m0, m1⟩
  by_cases hm : lenV v ≤ m
  · have hc : clampV v m = v := by unfold clampV; rw [if_pos hm]
    rw [hc]
    clear hc
    go_enter Try.func148, Try.ntmps148
    go_wp2_with fail
    refine (implVecLength_yes v _ hvk).mono ?_
    rintro e w1 ⟨rfl, hb1⟩
    obtain ⟨hc1, hf1⟩ := bcell hb1; have hy1 : w.heap.size < w1.heap.size := (by have := hb1.size; first | omega | (simp at this; omega)); have hz1 : w.heap.size + 1 < w1.heap.size := (by have := hb1.size; first | omega | (simp at this; omega))
    go_wp2_with fail
    refine (inRange_r _ _ _ _).mono ?_
    rw [hin]
    rintro e w2 ⟨rfl, rfl⟩
    go_wp2
    refine bodyPost_ret (v := .tuple #[.agg #[.int .i64 v.x, .int .i64 v.y], .bool true]) (by simp [results, Try.results148, go_sem, *]) rfl ⟨rfl, ?_⟩
    (repeat (first | (with_reducible assumption) | (with_reducible exact Below.refl _ _) | (with_reducible refine below_alloc ?_ _) | (with_reducible refine below_setCell ?_ ?_ _; (simp <;> omega)) | (with_reducible refine below_drew ?_) | (with_reducible refine below_drewN ?_ _) | (with_reducible refine below_after ?_ (by assumption))))
  · have hc : clampV v m = ⟨(v.x * m).tdiv (lenV v), (v.y * m).tdiv (lenV v)⟩ := by unfold clampV; rw [if_neg hm]
    have hx := mulm_bd a1 a2 m0 m1
    have hy := mulm_bd a3 a4 m0 m1
    have hX := tdiv_bd (b := lenV v) hx
    have hY := tdiv_bd (b := lenV v) hy
    have hl0 : 0 < lenV v := by omega
    have hne : ¬ lenV v = 0 := by omega
    rw [hc]
    clear hc
    go_enter Try.func148, Try.ntmps148
    go_wp2_with fail
    refine (implVecLength_yes v _ hvk).mono ?_
    rintro e w1 ⟨rfl, hb1⟩
    obtain ⟨hc1, hf1⟩ := bcell hb1; have hy1 : w.heap.size < w1.heap.size := (by have := hb1.size; first | omega | (simp at this; omega)); have hz1 : w.heap.size + 1 < w1.heap.size := (by have := hb1.size; first | omega | (simp at this; omega))
    go_wp2_with fail
    refine (inRange_r _ _ _ _).mono ?_
    rw [hin]
    rintro e w2 ⟨rfl, rfl⟩
    go_wp2_with fail
    refine wp_world (fun W => Bk W w.heap.size 24 #[.int .i64 v.x, .int .i64 v.y] ∧ Bk W (w.heap.size + 1) 24 #[.int .i64 0, .int .i64 0] ∧ Below w.heap.size w W) ⟨((Bk.new _ _ _ rfl).alloc _).later hb1, (Bk.new _ _ _ (by simp)).later hb1, by (repeat (first | (with_reducible exact Below.refl _ _) | (with_reducible refine below_alloc ?_ _) | (with_reducible refine below_setCell ?_ ?_ _; (simp <;> omega)) | (with_reducible refine below_drew ?_) | (with_reducible refine below_drewN ?_ _) | (with_reducible refine below_after ?_ (by assumption))))⟩ ?_
    rintro W ⟨hA, hB, hd⟩
    obtain ⟨⟨p0, p1⟩, pf⟩ := hA.c2
    obtain ⟨⟨b0, b1⟩, bf⟩ := hB.c2
    clear hb1 hc1 hf1 hy1 hz1
    have e1 : IntKind.i64.wrap (v.x * m) = v.x * m := IntWalk.i64_in _ (by omega)
    have e2 : IntKind.i64.wrap (v.y * m) = v.y * m := IntWalk.i64_in _ (by omega)
    have e3 : IntKind.i64.wrap ((v.x * m).tdiv (lenV v)) = (v.x * m).tdiv (lenV v) := IntWalk.i64_in _ (by omega)
    have e4 : IntKind.i64.wrap ((v.y * m).tdiv (lenV v)) = (v.y * m).tdiv (lenV v) := IntWalk.i64_in _ (by omega)
    go_still_tail 13, (by kernel_rfl)
    clear e1 e2 e3 e4
    change wpList _ _ _ _ _ W.drew
    go_wp2
    refine bodyPost_ret (v := .tuple #[.agg #[.int .i64 ((v.x * m).tdiv (lenV v)), .int .i64 ((v.y * m).tdiv (lenV v))], .bool true]) (by simp [results, Try.results148, go_sem, b0, b1]) rfl ⟨rfl, ?_⟩; (repeat (first | (with_reducible exact Below.refl _ _) | (with_reducible refine below_alloc ?_ _) | (with_reducible refine below_setCell ?_ ?_ _; (simp <;> omega)) | (with_reducible refine below_drew ?_) | (with_reducible refine below_drewN ?_ _) | (with_reducible refine below_after ?_ (by assumption))))
set_option maxRecDepth 100000 in
set_option maxHeartbeats 2000000 in
theorem speed_any (st pw : Int) (s : St) (w : World) (hf : fOk s.f) (h0 : 0 ≤ s.d) (h1 : s.d ≤ 15) :
    Calls Try.prog 132 #[.agg #[.int .i64 st, .int .i64 pw], .agg #[.int .i64 s.t, .int .i64 s.p.x, .int .i64 s.p.y, .int .i64 s.f.x, .int .i64 s.f.y, .int .i64 s.d, .int .i64 s.g, .bool s.dn, .bool s.ov]] w fun e w' => e = .returned (.agg #[.int .i64 (fastV s.f s.d pw).x, .int .i64 (fastV s.f s.d pw).y]) ∧ Below w.heap.size w w' := by
  obtain ⟨f1, f2, f3, f4⟩ := fOk_bd hf
  obtain ⟨g1, g2, g3, g4⟩ := push_bd h0 h1
  have hfk : vOk s.f = true := vOk_iff.2 (by omega)
  by_cases hp1 : pw = 1
  · subst hp1
    have hr : fastV s.f s.d 1 = clampV ⟨s.f.x + (scaleV (dirV s.d) 200).x, s.f.y + (scaleV (dirV s.d) 200).y⟩ 2000 := by unfold fastV; rw [if_pos rfl]
    rw [hr]
    clear hr
    obtain ⟨k1, k2, k3, k4⟩ := dirV_bd h0 h1
    go_enter Try.func132, Try.ntmps132
    go_wp2_with fail
    refine (implVecDirection_any s.d _ h0 h1).mono ?_
    rintro e w1 ⟨rfl, hb1⟩
    have S1 : Bk w1 (w.heap.size + 1) 31 #[.int .i64 s.t, .int .i64 s.p.x, .int .i64 s.p.y, .int .i64 s.f.x, .int .i64 s.f.y, .int .i64 s.d, .int .i64 s.g, .bool s.dn, .bool s.ov] := Bk.later (by (repeat (first | (with_reducible assumption) | (with_reducible exact Bk.new _ _ _ (by simp; done)) | (with_reducible refine Bk.alloc ?_ _) | (with_reducible refine Bk.drew ?_) | (with_reducible refine Bk.drewN ?_ _) | (with_reducible apply Bk.set') | (with_reducible refine Bk.far ?_ (by first | omega | (simp; done) | (simp; omega)) _) | (with_reducible refine Bk.later ?_ (by assumption)) | (with_reducible refine Bk.grown ?_ (by assumption) (by first | omega | (simp; done) | (simp; omega))) | (exact SetTo.mk (by with_reducible rfl)) | (exact SetTo.mk (by simp))))) hb1
    have R1 : Bk w1 (w.heap.size + 1 + 1) 24 #[.int .i64 0, .int .i64 0] := Bk.later (by (repeat (first | (with_reducible assumption) | (with_reducible exact Bk.new _ _ _ (by simp; done)) | (with_reducible refine Bk.alloc ?_ _) | (with_reducible refine Bk.drew ?_) | (with_reducible refine Bk.drewN ?_ _) | (with_reducible apply Bk.set') | (with_reducible refine Bk.far ?_ (by first | omega | (simp; done) | (simp; omega)) _) | (with_reducible refine Bk.later ?_ (by assumption)) | (with_reducible refine Bk.grown ?_ (by assumption) (by first | omega | (simp; done) | (simp; omega))) | (exact SetTo.mk (by with_reducible rfl)) | (exact SetTo.mk (by simp))))) hb1
    have d1 : Below w.heap.size w w1 := by (repeat (first | (with_reducible exact Below.refl _ _) | (with_reducible refine below_alloc ?_ _) | (with_reducible refine below_setCell ?_ ?_ _; (simp <;> omega)) | (with_reducible refine below_drew ?_) | (with_reducible refine below_drewN ?_ _) | (with_reducible refine below_after ?_ (by assumption))))
    clear hb1
    go_wp2_with fail
    refine (implVecScale_ok (dirV s.d) 200 _ (vOk_iff.2 (by omega)) (by omega) (by omega) (vOk_iff.2 (by omega))).mono ?_
    rintro e w2 ⟨rfl, hb2⟩
    have S2 : Bk w2 (w.heap.size + 1) 31 #[.int .i64 s.t, .int .i64 s.p.x, .int .i64 s.p.y, .int .i64 s.f.x, .int .i64 s.f.y, .int .i64 s.d, .int .i64 s.g, .bool s.dn, .bool s.ov] := Bk.later (by (repeat (first | (with_reducible assumption) | (with_reducible exact Bk.new _ _ _ (by simp; done)) | (with_reducible refine Bk.alloc ?_ _) | (with_reducible refine Bk.drew ?_) | (with_reducible refine Bk.drewN ?_ _) | (with_reducible apply Bk.set') | (with_reducible refine Bk.far ?_ (by first | omega | (simp; done) | (simp; omega)) _) | (with_reducible refine Bk.later ?_ (by assumption)) | (with_reducible refine Bk.grown ?_ (by assumption) (by first | omega | (simp; done) | (simp; omega))) | (exact SetTo.mk (by with_reducible rfl)) | (exact SetTo.mk (by simp))))) hb2
    have R2 : Bk w2 (w.heap.size + 1 + 1) 24 #[.int .i64 0, .int .i64 0] := Bk.later (by (repeat (first | (with_reducible assumption) | (with_reducible exact Bk.new _ _ _ (by simp; done)) | (with_reducible refine Bk.alloc ?_ _) | (with_reducible refine Bk.drew ?_) | (with_reducible refine Bk.drewN ?_ _) | (with_reducible apply Bk.set') | (with_reducible refine Bk.far ?_ (by first | omega | (simp; done) | (simp; omega)) _) | (with_reducible refine Bk.later ?_ (by assumption)) | (with_reducible refine Bk.grown ?_ (by assumption) (by first | omega | (simp; done) | (simp; omega))) | (exact SetTo.mk (by with_reducible rfl)) | (exact SetTo.mk (by simp))))) hb2
    have d2 : Below w.heap.size w w2 := by (repeat (first | (with_reducible exact Below.refl _ _) | (with_reducible refine below_alloc ?_ _) | (with_reducible refine below_setCell ?_ ?_ _; (simp <;> omega)) | (with_reducible refine below_drew ?_) | (with_reducible refine below_drewN ?_ _) | (with_reducible refine below_after ?_ (by assumption))))
    have z2 := R2.lt
    have zS := S2.lt
    clear hb2 S1 R1 d1
    obtain ⟨⟨p0, p1, p2, p3, p4, p5, p6, p7, p8⟩, pf⟩ := S2.c9
    go_wp2_with fail
    refine (implVecAdd_ok s.f (scaleV (dirV s.d) 200) _ hfk (vOk_iff.2 (by omega)) (vOk_iff.2 (by simp only; omega))).mono ?_
    rintro e w3 ⟨rfl, hb3⟩
    have R3 : Bk w3 (w.heap.size + 1 + 1) 24 #[.int .i64 0, .int .i64 0] := Bk.later (by (repeat (first | (with_reducible assumption) | (with_reducible exact Bk.new _ _ _ (by simp; done)) | (with_reducible refine Bk.alloc ?_ _) | (with_reducible refine Bk.drew ?_) | (with_reducible refine Bk.drewN ?_ _) | (with_reducible apply Bk.set') | (with_reducible refine Bk.far ?_ (by first | omega | (simp; done) | (simp; omega)) _) | (with_reducible refine Bk.later ?_ (by assumption)) | (with_reducible refine Bk.grown ?_ (by assumption) (by first | omega | (simp; done) | (simp; omega))) | (exact SetTo.mk (by with_reducible rfl)) | (exact SetTo.mk (by simp))))) hb3
    have d3 : Below w.heap.size w w3 := by (repeat (first | (with_reducible exact Below.refl _ _) | (with_reducible refine below_alloc ?_ _) | (with_reducible refine below_setCell ?_ ?_ _; (simp <;> omega)) | (with_reducible refine below_drew ?_) | (with_reducible refine below_drewN ?_ _) | (with_reducible refine below_after ?_ (by assumption))))
    clear hb3 S2 R2 d2 p0 p1 p2 p3 p4 p5 p6 p7 p8 pf z2 zS
    go_wp2_with fail
    refine (implVecClamp_yes ⟨s.f.x + (scaleV (dirV s.d) 200).x, s.f.y + (scaleV (dirV s.d) 200).y⟩ 2000 _ (by simp only; omega) (by omega) (by omega)).mono ?_
    rintro e w4 ⟨rfl, hb4⟩
    have R4 : Bk w4 (w.heap.size + 1 + 1) 24 #[.int .i64 0, .int .i64 0] := Bk.later (by (repeat (first | (with_reducible assumption) | (with_reducible exact Bk.new _ _ _ (by simp; done)) | (with_reducible refine Bk.alloc ?_ _) | (with_reducible refine Bk.drew ?_) | (with_reducible refine Bk.drewN ?_ _) | (with_reducible apply Bk.set') | (with_reducible refine Bk.far ?_ (by first | omega | (simp; done) | (simp; omega)) _) | (with_reducible refine Bk.later ?_ (by assumption)) | (with_reducible refine Bk.grown ?_ (by assumption) (by first | omega | (simp; done) | (simp; omega))) | (exact SetTo.mk (by with_reducible rfl)) | (exact SetTo.mk (by simp))))) hb4
    have F4 : Bk w4 w3.heap.size 24 #[.int .i64 (s.f.x + (scaleV (dirV s.d) 200).x), .int .i64 (s.f.y + (scaleV (dirV s.d) 200).y)] := Bk.later (by (repeat (first | (with_reducible assumption) | (with_reducible exact Bk.new _ _ _ (by simp; done)) | (with_reducible refine Bk.alloc ?_ _) | (with_reducible refine Bk.drew ?_) | (with_reducible refine Bk.drewN ?_ _) | (with_reducible apply Bk.set') | (with_reducible refine Bk.far ?_ (by first | omega | (simp; done) | (simp; omega)) _) | (with_reducible refine Bk.later ?_ (by assumption)) | (with_reducible refine Bk.grown ?_ (by assumption) (by first | omega | (simp; done) | (simp; omega))) | (exact SetTo.mk (by with_reducible rfl)) | (exact SetTo.mk (by simp))))) hb4
    have d4 : Below w.heap.size w w4 := by (repeat (first | (with_reducible exact Below.refl _ _) | (with_reducible refine below_alloc ?_ _) | (with_reducible refine below_setCell ?_ ?_ _; (simp <;> omega)) | (with_reducible refine below_drew ?_) | (with_reducible refine below_drewN ?_ _) | (with_reducible refine below_after ?_ (by assumption))))
    have z3 := R3.lt
    have z4 := F4.lt
    clear hb4 R3 d3
    obtain ⟨⟨r0, r1⟩, rf⟩ := R4.c2
    obtain ⟨⟨q0, q1⟩, qf⟩ := F4.c2
    go_wp2
    refine bodyPost_ret (v := .agg #[.int .i64 (clampV ⟨s.f.x + (scaleV (dirV s.d) 200).x, s.f.y + (scaleV (dirV s.d) 200).y⟩ 2000).x, .int .i64 (clampV ⟨s.f.x + (scaleV (dirV s.d) 200).x, s.f.y + (scaleV (dirV s.d) 200).y⟩ 2000).y]) (by simp [results, Try.results132, go_sem, *]) rfl ⟨rfl, ?_⟩
    (repeat (first | (with_reducible assumption) | (with_reducible exact Below.refl _ _) | (with_reducible refine below_alloc ?_ _) | (with_reducible refine below_setCell ?_ ?_ _; (simp <;> omega)) | (with_reducible refine below_drew ?_) | (with_reducible refine below_drewN ?_ _) | (with_reducible refine below_after ?_ (by assumption))))
  · have hp1b : (pw == 1) = false := by simpa using hp1
    by_cases hp2 : pw = 2
    · subst hp2
      have hr : fastV s.f s.d 2 = scaleV s.f 700 := by unfold fastV; rw [if_neg (by omega), if_pos rfl]
      rw [hr]
      clear hr
      have hs := fOk_bd (scale_ok (k := 700) (by omega) (by omega) hf)
      go_enter Try.func132, Try.ntmps132
      go_wp2_with fail
      refine (implVecScale_ok s.f 700 _ hfk (by omega) (by omega) (vOk_iff.2 (by omega))).mono ?_
      rintro e w2 ⟨rfl, hb2⟩
      have R2 : Bk w2 (w.heap.size + 1 + 1) 24 #[.int .i64 0, .int .i64 0] := Bk.later (by (repeat (first | (with_reducible assumption) | (with_reducible exact Bk.new _ _ _ (by simp; done)) | (with_reducible refine Bk.alloc ?_ _) | (with_reducible refine Bk.drew ?_) | (with_reducible refine Bk.drewN ?_ _) | (with_reducible apply Bk.set') | (with_reducible refine Bk.far ?_ (by first | omega | (simp; done) | (simp; omega)) _) | (with_reducible refine Bk.later ?_ (by assumption)) | (with_reducible refine Bk.grown ?_ (by assumption) (by first | omega | (simp; done) | (simp; omega))) | (exact SetTo.mk (by with_reducible rfl)) | (exact SetTo.mk (by simp))))) hb2
      have d2 : Below w.heap.size w w2 := by (repeat (first | (with_reducible exact Below.refl _ _) | (with_reducible refine below_alloc ?_ _) | (with_reducible refine below_setCell ?_ ?_ _; (simp <;> omega)) | (with_reducible refine below_drew ?_) | (with_reducible refine below_drewN ?_ _) | (with_reducible refine below_after ?_ (by assumption))))
      have z2 := R2.lt
      clear hb2
      obtain ⟨⟨r0, r1⟩, rf⟩ := R2.c2
      go_wp2
      refine bodyPost_ret (v := .agg #[.int .i64 (scaleV s.f 700).x, .int .i64 (scaleV s.f 700).y]) (by simp [results, Try.results132, go_sem, *]) rfl ⟨rfl, ?_⟩
      (repeat (first | (with_reducible assumption) | (with_reducible exact Below.refl _ _) | (with_reducible refine below_alloc ?_ _) | (with_reducible refine below_setCell ?_ ?_ _; (simp <;> omega)) | (with_reducible refine below_drew ?_) | (with_reducible refine below_drewN ?_ _) | (with_reducible refine below_after ?_ (by assumption))))
    · have hp2b : (pw == 2) = false := by simpa using hp2
      have hr : fastV s.f s.d pw = scaleV s.f 950 := by unfold fastV; rw [if_neg hp1, if_neg hp2]
      rw [hr]
      clear hr
      have hs := fOk_bd (scale_ok (k := 950) (by omega) (by omega) hf)
      go_enter Try.func132, Try.ntmps132
      go_wp2_with fail
      refine (implVecScale_ok s.f 950 _ hfk (by omega) (by omega) (vOk_iff.2 (by omega))).mono ?_
      rintro e w2 ⟨rfl, hb2⟩
      have R2 : Bk w2 (w.heap.size + 1 + 1) 24 #[.int .i64 0, .int .i64 0] := Bk.later (by (repeat (first | (with_reducible assumption) | (with_reducible exact Bk.new _ _ _ (by simp; done)) | (with_reducible refine Bk.alloc ?_ _) | (with_reducible refine Bk.drew ?_) | (with_reducible refine Bk.drewN ?_ _) | (with_reducible apply Bk.set') | (with_reducible refine Bk.far ?_ (by first | omega | (simp; done) | (simp; omega)) _) | (with_reducible refine Bk.later ?_ (by assumption)) | (with_reducible refine Bk.grown ?_ (by assumption) (by first | omega | (simp; done) | (simp; omega))) | (exact SetTo.mk (by with_reducible rfl)) | (exact SetTo.mk (by simp))))) hb2
      have d2 : Below w.heap.size w w2 := by (repeat (first | (with_reducible exact Below.refl _ _) | (with_reducible refine below_alloc ?_ _) | (with_reducible refine below_setCell ?_ ?_ _; (simp <;> omega)) | (with_reducible refine below_drew ?_) | (with_reducible refine below_drewN ?_ _) | (with_reducible refine below_after ?_ (by assumption))))
      have z2 := R2.lt
      clear hb2
      obtain ⟨⟨r0, r1⟩, rf⟩ := R2.c2
      go_wp2
      refine bodyPost_ret (v := .agg #[.int .i64 (scaleV s.f 950).x, .int .i64 (scaleV s.f 950).y]) (by simp [results, Try.results132, go_sem, *]) rfl ⟨rfl, ?_⟩
      (repeat (first | (with_reducible assumption) | (with_reducible exact Below.refl _ _) | (with_reducible refine below_alloc ?_ _) | (with_reducible refine below_setCell ?_ ?_ _; (simp <;> omega)) | (with_reducible refine below_drew ?_) | (with_reducible refine below_drewN ?_ _) | (with_reducible refine below_after ?_ (by assumption))))
end Go.Proofs.Ytmfhfebakdkkdaa
