/- The reference's EngineValid, EngineStep, EngineStart, InputsLegal. (Round B) -/
import Derived.Test.YtlegilbiapbfkaaGreatZRun
namespace Go.Proofs.YtlegilbiapbfkaaGreat
open Go.ChangeShapes Go.WideShapes Go.ChangeAt Go.RowKit
set_option maxRecDepth 100000 in
theorem specInputsLegal_any (l : Lev) (ins : List Inp) (A A' A2 : Option Addr) (c c' c2 : Nat) (w : World) (h : Sl w 4 encBx A l.walls.length l.walls) (hg : Sl w 4 encBx A' l.gates.length l.gates) (hs : Sl w 3 encInp A2 ins.length ins)
    (hn : (l.walls.length : Nat) ≤ 9223372036854775807) (hn' : (l.gates.length : Nat) ≤ 9223372036854775807) (hni : (ins.length : Nat) ≤ 9223372036854775807) : Calls Sq.prog 24 #[.agg #[.int .i64 l.id, .int .i64 l.ticks, .int .i64 l.start.x, .int .i64 l.start.y, .slice A l.walls.length c, .slice A' l.gates.length c', .int .i64 l.fin.lo.x, .int .i64 l.fin.lo.y, .int .i64 l.fin.hi.x, .int .i64 l.fin.hi.y, .int .i64 l.bans], .slice A2 ins.length c2] w fun e w' => e = .returned (.int .i64 (if levOk l then legal l ins else 0)) ∧ Below w.heap.size w w' := by
  cases hL : levOk l
  · go_enter Sq.func24, Sq.ntmps24
    go_wp2_with (go_at_call 33; refine (specLevelValid_any l _ _ _ _ _ (h.below (by (with_reducible repeat first | exact bl0 _ _ | refine blA ?_ _ | (refine blS ?_ ?_ _; (simp <;> omega)) | refine blD ?_ | refine blN ?_ _ | refine blF ?_ ‹_›))) (hg.below (by (with_reducible repeat first | exact bl0 _ _ | refine blA ?_ _ | (refine blS ?_ ?_ _; (simp <;> omega)) | refine blD ?_ | refine blN ?_ _ | refine blF ?_ ‹_›))) hn hn').mono ?_; rw [hL]; rintro e w1 ⟨rfl, hb1⟩; obtain ⟨hc1, hf1⟩ := bcell hb1; have hy1 : w.heap.size < w1.heap.size := (by have := hb1.size; first | omega | (simp at this; omega)))
    go_ret
    exact ⟨rfl, by (with_reducible repeat first | assumption | exact bl0 _ _ | refine blA ?_ _ | (refine blS ?_ ?_ _; (simp <;> omega)) | refine blD ?_ | refine blN ?_ _ | refine blF ?_ ‹_›)⟩
  · have hG := LevG.of_ok hL
    have g0 := hG.b0
    have g1 := hG.b1
    clear hG
    go_enter Sq.func24, Sq.ntmps24
    go_wp2_with (first
      | (go_at_call 33; refine (specLevelValid_any l _ _ _ _ _ (h.below (by (with_reducible repeat first | exact bl0 _ _ | refine blA ?_ _ | (refine blS ?_ ?_ _; (simp <;> omega)) | refine blD ?_ | refine blN ?_ _ | refine blF ?_ ‹_›))) (hg.below (by (with_reducible repeat first | exact bl0 _ _ | refine blA ?_ _ | (refine blS ?_ ?_ _; (simp <;> omega)) | refine blD ?_ | refine blN ?_ _ | refine blF ?_ ‹_›))) hn hn').mono ?_; rw [hL]; rintro e w1 ⟨rfl, hb1⟩; obtain ⟨hc1, hf1⟩ := bcell hb1; have hy1 : w.heap.size < w1.heap.size := (by have := hb1.size; first | omega | (simp at this; omega)))
      | (go_at_call 57; refine (l12Legal_any l ins _ _ _ _ _ _ _ (hs.below (by (with_reducible repeat first | assumption | exact bl0 _ _ | refine blA ?_ _ | (refine blS ?_ ?_ _; (simp <;> omega)) | refine blD ?_ | refine blN ?_ _ | refine blF ?_ ‹_›))) hni g0 g1).mono ?_; rintro e w2 ⟨rfl, hb2⟩; obtain ⟨hc2, hf2⟩ := bcell hb2; have hy2 : w.heap.size < w2.heap.size := (by have := hb2.size; first | omega | (simp at this; omega))))
    go_ret
    exact ⟨rfl, by (with_reducible repeat first | assumption | exact bl0 _ _ | refine blA ?_ _ | (refine blS ?_ ?_ _; (simp <;> omega)) | refine blD ?_ | refine blN ?_ _ | refine blF ?_ ‹_›)⟩
end Go.Proofs.YtlegilbiapbfkaaGreat
