/- The reference's LevelValid. -/
import Derived.Test.YtmfhfebakdkkdaaSpecG
namespace Go.Proofs.Ytmfhfebakdkkdaa
open Go.ChangeShapes Go.WideShapes Go.ChangeAt Go.RowKit
theorem bxOk_bdBx {b : Bx} (h : bxOk b = true) : bdBx b := by
  have := bxOk_bd h
  unfold bdBx bdV
  omega
theorem walls_bd {l : List Bx} (h : boxesB l = true) : ∀ b ∈ l, bdBx b := fun b hb => bxOk_bdBx (List.all_eq_true.1 h b hb)
theorem vOk_bdV {v : V2} (h : vOk v = true) : bdV v := by
  have := vOk_iff.1 h
  unfold bdV
  omega
set_option maxRecDepth 100000 in
set_option maxHeartbeats 2000000 in
theorem specLevelValid_any (l : Lev) (A A' : Option Addr) (c c' : Nat) (w : World) (h : Sl w 4 encBx A l.walls.length l.walls) (hg : Sl w 4 encBx A' l.gates.length l.gates) (hn : (l.walls.length : Nat) ≤ 9223372036854775807) (hn' : (l.gates.length : Nat) ≤ 9223372036854775807) :
    Calls Try.prog 99 #[.agg #[.int .i64 l.id, .int .i64 l.ticks, .int .i64 l.start.x, .int .i64 l.start.y, .slice A l.walls.length c, .slice A' l.gates.length c', .int .i64 l.fin.lo.x, .int .i64 l.fin.lo.y, .int .i64 l.fin.hi.x, .int .i64 l.fin.hi.y, .int .i64 l.bans]] w fun e w' => e = .returned (.bool (levOk l)) ∧ Below w.heap.size w w' := by
  go_enter Try.func99, Try.ntmps99
  go_wp2_with (first
    | (go_at_call 95; refine (l6In_r _ _ _ _).mono ?_; rintro e w0 ⟨rfl, rfl⟩)
    | (go_at_call 125; refine (specVecOk_xy _ _ _).mono ?_; rintro e w1 ⟨rfl, hb1⟩; obtain ⟨hc1, hf1⟩ := bcell hb1; have hy1 : w.heap.size < w1.heap.size := (by have := hb1.size; first | omega | (simp at this; omega)))
    | (go_at_call 126; (with_reducible refine (l11Boxes_any _ _ _ l.walls _ (h.below ?_) hn).mono ?_); (repeat (first | (with_reducible exact Below.refl _ _) | (with_reducible refine below_alloc ?_ _) | (with_reducible refine below_setCell ?_ ?_ _; (simp <;> omega)) | (with_reducible refine below_drew ?_) | (with_reducible refine below_drewN ?_ _) | (with_reducible refine below_after ?_ (by assumption)))); rintro e w2 ⟨rfl, hb2⟩; obtain ⟨hc2, hf2⟩ := bcell hb2; have hy2 : w.heap.size < w2.heap.size := (by have := hb2.size; first | omega | (simp at this; omega)))
    | (go_at_call 126; (with_reducible refine (l11Boxes_any _ _ _ l.gates _ (hg.below ?_) hn').mono ?_); (repeat (first | (with_reducible exact Below.refl _ _) | (with_reducible refine below_alloc ?_ _) | (with_reducible refine below_setCell ?_ ?_ _; (simp <;> omega)) | (with_reducible refine below_drew ?_) | (with_reducible refine below_drewN ?_ _) | (with_reducible refine below_after ?_ (by assumption)))); rintro e w3 ⟨rfl, hb3⟩; obtain ⟨hc3, hf3⟩ := bcell hb3; have hy3 : w.heap.size < w3.heap.size := (by have := hb3.size; first | omega | (simp at this; omega)))
    | (go_at_call 127; refine (specBoxValid_xy _ _ _ _ _).mono ?_; rintro e w4 ⟨rfl, hb4⟩; obtain ⟨hc4, hf4⟩ := bcell hb4; have hy4 : w.heap.size < w4.heap.size := (by have := hb4.size; first | omega | (simp at this; omega)))
    | (go_at_call 111; refine (l11Free_xy l l.start.x l.start.y _ _ _ _ _ (h.below ?_) hn (walls_bd (by assumption)) (vOk_bdV (v := ⟨l.start.x, l.start.y⟩) (by assumption))).mono ?_; (repeat (first | (with_reducible exact Below.refl _ _) | (with_reducible refine below_alloc ?_ _) | (with_reducible refine below_setCell ?_ ?_ _; (simp <;> omega)) | (with_reducible refine below_drew ?_) | (with_reducible refine below_drewN ?_ _) | (with_reducible refine below_after ?_ (by assumption)))); rintro e w5 ⟨rfl, hb5⟩; obtain ⟨hc5, hf5⟩ := bcell hb5; have hy5 : w.heap.size < w5.heap.size := (by have := hb5.size; first | omega | (simp at this; omega))))
  all_goals (go_ret; refine ⟨ret_bool (by first | (simp_all [levOk]; done) | (simp_all [levOk]; omega) | (simp_all [levOk]; intros; omega) | (simp_all [levOk]; rw [decide_eq_true (by omega), decide_eq_true (by omega)]; rfl)), ?_⟩; (repeat (first | (with_reducible exact Below.refl _ _) | (with_reducible refine below_alloc ?_ _) | (with_reducible refine below_setCell ?_ ?_ _; (simp <;> omega)) | (with_reducible refine below_drew ?_) | (with_reducible refine below_drewN ?_ _) | (with_reducible refine below_after ?_ (by assumption)))))
end Go.Proofs.Ytmfhfebakdkkdaa
