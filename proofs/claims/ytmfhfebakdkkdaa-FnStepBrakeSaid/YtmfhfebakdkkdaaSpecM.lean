/- The reference's EngineValid, EngineStep, EngineStart, InputsLegal. (Round B) -/
import Derived.Test.YtmfhfebakdkkdaaZRun
namespace Go.Proofs.Ytmfhfebakdkkdaa
open Go.ChangeShapes Go.WideShapes Go.ChangeAt Go.RowKit
theorem vOk_xyb {x y : Int} (h : vOk ⟨x, y⟩ = true) : -1000000 ≤ x ∧ x ≤ 1000000 ∧ -1000000 ≤ y ∧ y ≤ 1000000 := vOk_iff.1 h
set_option maxRecDepth 100000 in
set_option maxHeartbeats 1000000 in
theorem l13Own_any (s : St) (w : World) : Calls Try.prog 110 #[.agg #[.int .i64 s.t, .int .i64 s.p.x, .int .i64 s.p.y, .int .i64 s.f.x, .int .i64 s.f.y, .int .i64 s.d, .int .i64 s.g, .bool s.dn, .bool s.ov]] w fun e w' => e = .returned (.bool (ownB s)) ∧ Below w.heap.size w w' := by
  have HP : Hid (ownB s = (inR 0 60 s.t && (vOk ⟨s.p.x, s.p.y⟩ && (vOk ⟨s.f.x, s.f.y⟩ && (decide (lenV ⟨s.f.x, s.f.y⟩ ≤ 2000) && (inR 0 15 s.d && (inR 0 3 s.g && !(s.dn && s.ov)))))))) := Lib.hid rfl
  go_enter Try.func110, Try.ntmps110
  go_wp2_with (first
    | (go_at_call 95; refine (l6In_r _ _ _ _).mono ?_; rintro e w0 ⟨rfl, rfl⟩)
    | (go_at_call 125; refine (specVecOk_xy _ _ _).mono ?_; rintro e w1 ⟨rfl, hb1⟩; obtain ⟨hc1, hf1⟩ := bcell hb1; have hy1 : w.heap.size < w1.heap.size := (by have := hb1.size; first | omega | (simp at this; omega)))
    | (go_at_call 133; refine (l2Length_any ⟨s.f.x, s.f.y⟩ _ (vOk_xyb (by assumption))).mono ?_; rintro e w2 ⟨rfl, hb2⟩; obtain ⟨hc2, hf2⟩ := bcell hb2; have hy2 : w.heap.size < w2.heap.size := (by have := hb2.size; first | omega | (simp at this; omega))))
  all_goals (go_ret; refine ⟨ret_bool (by rw [HP.out]; first | (simp_all; done) | (simp_all; omega)), ?_⟩; (repeat (first | (with_reducible exact Below.refl _ _) | (with_reducible refine below_alloc ?_ _) | (with_reducible refine below_setCell ?_ ?_ _; (simp <;> omega)) | (with_reducible refine below_drew ?_) | (with_reducible refine below_drewN ?_ _) | (with_reducible refine below_after ?_ (by assumption)))))
set_option maxRecDepth 100000 in
theorem specInputsLegal_any (l : Lev) (ins : List Inp) (A A' A2 : Option Addr) (c c' c2 : Nat) (w : World) (h : Sl w 4 encBx A l.walls.length l.walls) (hg : Sl w 4 encBx A' l.gates.length l.gates) (hs : Sl w 3 encInp A2 ins.length ins)
    (hn : (l.walls.length : Nat) ≤ 9223372036854775807) (hn' : (l.gates.length : Nat) ≤ 9223372036854775807) (hni : (ins.length : Nat) ≤ 9223372036854775807) : Calls Try.prog 54 #[.agg #[.int .i64 l.id, .int .i64 l.ticks, .int .i64 l.start.x, .int .i64 l.start.y, .slice A l.walls.length c, .slice A' l.gates.length c', .int .i64 l.fin.lo.x, .int .i64 l.fin.lo.y, .int .i64 l.fin.hi.x, .int .i64 l.fin.hi.y, .int .i64 l.bans], .slice A2 ins.length c2] w fun e w' => e = .returned (.int .i64 (if levOk l then legal l ins else 0)) ∧ Below w.heap.size w w' := by
  cases hL : levOk l
  · go_enter Try.func54, Try.ntmps54
    go_wp2_with (go_at_call 99; refine (specLevelValid_any l _ _ _ _ _ (h.below (by (repeat (first | (with_reducible exact Below.refl _ _) | (with_reducible refine below_alloc ?_ _) | (with_reducible refine below_setCell ?_ ?_ _; (simp <;> omega)) | (with_reducible refine below_drew ?_) | (with_reducible refine below_drewN ?_ _) | (with_reducible refine below_after ?_ (by assumption)))))) (hg.below (by (repeat (first | (with_reducible exact Below.refl _ _) | (with_reducible refine below_alloc ?_ _) | (with_reducible refine below_setCell ?_ ?_ _; (simp <;> omega)) | (with_reducible refine below_drew ?_) | (with_reducible refine below_drewN ?_ _) | (with_reducible refine below_after ?_ (by assumption)))))) hn hn').mono ?_; rw [hL]; rintro e w1 ⟨rfl, hb1⟩; obtain ⟨hc1, hf1⟩ := bcell hb1; have hy1 : w.heap.size < w1.heap.size := (by have := hb1.size; first | omega | (simp at this; omega)))
    go_ret
    exact ⟨rfl, by (repeat (first | (with_reducible assumption) | (with_reducible exact Below.refl _ _) | (with_reducible refine below_alloc ?_ _) | (with_reducible refine below_setCell ?_ ?_ _; (simp <;> omega)) | (with_reducible refine below_drew ?_) | (with_reducible refine below_drewN ?_ _) | (with_reducible refine below_after ?_ (by assumption))))⟩
  · have hG := LevG.of_ok hL
    have g0 := hG.b0
    have g1 := hG.b1
    clear hG
    go_enter Try.func54, Try.ntmps54
    go_wp2_with (first
      | (go_at_call 99; refine (specLevelValid_any l _ _ _ _ _ (h.below (by (repeat (first | (with_reducible exact Below.refl _ _) | (with_reducible refine below_alloc ?_ _) | (with_reducible refine below_setCell ?_ ?_ _; (simp <;> omega)) | (with_reducible refine below_drew ?_) | (with_reducible refine below_drewN ?_ _) | (with_reducible refine below_after ?_ (by assumption)))))) (hg.below (by (repeat (first | (with_reducible exact Below.refl _ _) | (with_reducible refine below_alloc ?_ _) | (with_reducible refine below_setCell ?_ ?_ _; (simp <;> omega)) | (with_reducible refine below_drew ?_) | (with_reducible refine below_drewN ?_ _) | (with_reducible refine below_after ?_ (by assumption)))))) hn hn').mono ?_; rw [hL]; rintro e w1 ⟨rfl, hb1⟩; obtain ⟨hc1, hf1⟩ := bcell hb1; have hy1 : w.heap.size < w1.heap.size := (by have := hb1.size; first | omega | (simp at this; omega)))
      | (go_at_call 100; refine (l12Legal_any l ins _ _ _ _ _ _ _ (hs.below (by (repeat (first | (with_reducible assumption) | (with_reducible exact Below.refl _ _) | (with_reducible refine below_alloc ?_ _) | (with_reducible refine below_setCell ?_ ?_ _; (simp <;> omega)) | (with_reducible refine below_drew ?_) | (with_reducible refine below_drewN ?_ _) | (with_reducible refine below_after ?_ (by assumption)))))) hni g0 g1).mono ?_; rintro e w2 ⟨rfl, hb2⟩; obtain ⟨hc2, hf2⟩ := bcell hb2; have hy2 : w.heap.size < w2.heap.size := (by have := hb2.size; first | omega | (simp at this; omega))))
    go_ret
    exact ⟨rfl, by (repeat (first | (with_reducible assumption) | (with_reducible exact Below.refl _ _) | (with_reducible refine below_alloc ?_ _) | (with_reducible refine below_setCell ?_ ?_ _; (simp <;> omega)) | (with_reducible refine below_drew ?_) | (with_reducible refine below_drewN ?_ _) | (with_reducible refine below_after ?_ (by assumption))))⟩
end Go.Proofs.Ytmfhfebakdkkdaa
