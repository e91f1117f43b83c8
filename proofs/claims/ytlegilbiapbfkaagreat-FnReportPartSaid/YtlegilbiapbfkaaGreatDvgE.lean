/- Draws of runs with claimed hashes. (Round C) -/
import Derived.Test.YtlegilbiapbfkaaGreatZDrawL
import Derived.Test.YtlegilbiapbfkaaGreatDrF
import Derived.Test.YtlegilbiapbfkaaGreatDvgR
namespace Go.Proofs.YtlegilbiapbfkaaGreat
open Go.ChangeShapes Go.WideShapes Go.ChangeAt Go.RowKit
def RetRc (w : World) (e : Ending) (w' : World) : Prop := ∃ l A A' c c' ins A2 c2 cl A3 c3, e = .returned (.tuple #[.agg #[.int .i64 l.id, .int .i64 l.ticks, .int .i64 l.start.x, .int .i64 l.start.y, .slice A l.walls.length c, .slice A' l.gates.length c', .int .i64 l.fin.lo.x, .int .i64 l.fin.lo.y, .int .i64 l.fin.hi.x, .int .i64 l.fin.hi.y, .int .i64 l.bans], .slice A2 ins.length c2, .slice A3 cl.length c3]) ∧ Drawn l A A' c c' ins A2 c2 w' ∧ hsB cl ∧ cl.length ≤ 62 ∧ cl.length ≤ c3 ∧ Sl w' 1 encInt A3 cl.length cl ∧ Below w.heap.size w w'
set_option maxRecDepth 100000 in
set_option maxHeartbeats 4000000 in
theorem drawReport_any (A : Option Addr) (n c : Nat) (l : List Int) (w : World) (h : Sl w 1 encU8 A n l) (hl : ∀ x ∈ l, 0 ≤ x ∧ x < 256) (hn : n ≤ 9223372036854775807) (hnc : n ≤ c) (hc : c ≤ 9223372036854775807) :
    Calls Sq.prog 10 #[.slice A n c] w (RetRc w) := by
  go_enter Sq.func10, Sq.ntmps10
  go_wp2_with fail
  refine (l6Open_n A n c l _ (h.below (below_alloc (Below.refl _ _) _)) hl hn hnc hc).mono ?_
  rintro e w1 ⟨R, rfl, hRw, hR1, hb1⟩
  simp only [World.size_alloc] at hRw
  have hRl := hR1.lt
  have Z1 : Bk w1 w.heap.size 29 #[.int .i64 0, .int .i64 0, .int .i64 0, .int .i64 0, .slice none 0 0, .slice none 0 0, .int .i64 0, .int .i64 0, .int .i64 0, .int .i64 0, .int .i64 0] := Bk.later (by (repeat first | (with_reducible first | assumption | exact kN _ _ _ (by simp) | refine kA ?_ _ | refine kD ?_ | refine kW ?_ _ | apply Bk.set' | refine kF ?_ (by simp <;> omega) _ | refine kL ?_ ‹_› | refine kG ?_ ‹_› (by first | omega | simp <;> omega)) | exact ⟨by with_reducible rfl⟩ | exact ⟨by simp⟩)) hb1
  have d1 : Below w.heap.size w w1 := below_after (below_alloc (Below.refl _ _) _) hb1
  clear hb1 h
  go_wp2_with fail
  refine (l91Level_any R 0 _ hR1 (by omega)).mono ?_
  rintro e w2 ⟨lv, A2, c2, A3, c3, rfl, hLD, hW2, hG2, hR2, hg2⟩
  have Z2 := Z1.grown hg2 (by intro e; injection e; omega)
  have d2 : Below w.heap.size w w2 := d1.grown hg2 d1.size (fun k e => by cases e; omega)
  have s2 := hg2.size
  have bA := own_above hW2 hRl
  have bA' := own_above hG2 hRl
  have n2 := hW2.none_cap
  have n3 := hG2.none_cap
  have nw := hLD.nw
  have ng := hLD.ng
  have W2 := hW2.sl' encBx_len
  have G2 := hG2.sl' encBx_len
  clear Z1 d1 hg2 hW2 hG2 hR1
  obtain ⟨M, hM⟩ : ∃ M, w2.heap.size = M := ⟨_, rfl⟩
  have hRM : R < M := by omega
  have zZ2 := Z2.lt
  have L2 : Bk (w2.alloc (.cells #[.int .i64 lv.id, .int .i64 lv.ticks, .int .i64 lv.start.x, .int .i64 lv.start.y, .slice A2 lv.walls.length c2, .slice A3 lv.gates.length c3, .int .i64 lv.fin.lo.x, .int .i64 lv.fin.lo.y, .int .i64 lv.fin.hi.x, .int .i64 lv.fin.hi.y, .int .i64 lv.bans] 29)) M 29 #[.int .i64 lv.id, .int .i64 lv.ticks, .int .i64 lv.start.x, .int .i64 lv.start.y, .slice A2 lv.walls.length c2, .slice A3 lv.gates.length c3, .int .i64 lv.fin.lo.x, .int .i64 lv.fin.lo.y, .int .i64 lv.fin.hi.x, .int .i64 lv.fin.hi.y, .int .i64 lv.bans] := Bk.new w2 _ _ hM
  go_wp2_with fail
  refine (l92Any_any lv A2 A3 c2 c3 R (0 + 40) _ (hR2.alloc _) (by omega) hLD (W2.below (below_alloc (Below.refl _ _) _)) (G2.below (below_alloc (Below.refl _ _) _)) (fun a e => ⟨(bA a e).1, by have := (bA a e).2; simp; omega⟩) (fun a e => ⟨(bA' a e).1, by have := (bA' a e).2; simp; omega⟩)).mono ?_
  rintro e w3 ⟨ins, A4, c4, rfl, hP, hO3, hR3, hg3⟩
  have L3 := L2.grown hg3 (by intro e; injection e; omega)
  have Z3 := (Z2.alloc (.cells #[.int .i64 lv.id, .int .i64 lv.ticks, .int .i64 lv.start.x, .int .i64 lv.start.y, .slice A2 lv.walls.length c2, .slice A3 lv.gates.length c3, .int .i64 lv.fin.lo.x, .int .i64 lv.fin.lo.y, .int .i64 lv.fin.hi.x, .int .i64 lv.fin.hi.y, .int .i64 lv.bans] 29)).grown hg3 (by intro e; injection e; omega)
  have W3 := (W2.below (below_alloc (Below.refl _ _) (.cells #[.int .i64 lv.id, .int .i64 lv.ticks, .int .i64 lv.start.x, .int .i64 lv.start.y, .slice A2 lv.walls.length c2, .slice A3 lv.gates.length c3, .int .i64 lv.fin.lo.x, .int .i64 lv.fin.lo.y, .int .i64 lv.fin.hi.x, .int .i64 lv.fin.hi.y, .int .i64 lv.bans] 29))).grown hg3 (fun a e e2 => by injection e2 with e2; have := (bA a e).1; omega)
  have G3 := (G2.below (below_alloc (Below.refl _ _) (.cells #[.int .i64 lv.id, .int .i64 lv.ticks, .int .i64 lv.start.x, .int .i64 lv.start.y, .slice A2 lv.walls.length c2, .slice A3 lv.gates.length c3, .int .i64 lv.fin.lo.x, .int .i64 lv.fin.lo.y, .int .i64 lv.fin.hi.x, .int .i64 lv.fin.hi.y, .int .i64 lv.bans] 29))).grown hg3 (fun a e e2 => by injection e2 with e2; have := (bA' a e).1; omega)
  have d3 : Below w.heap.size w w3 := (below_alloc d2 _).grown hg3 (by have := d2.size; simp; omega) (fun k e => by cases e; omega)
  have s3 := hg3.size
  simp only [World.size_alloc] at s3
  have O3 : Own w3 M 93 3 encInp (.slice A4 ins.length c4) ins := hO3.mono (by simp; omega)
  clear L2 Z2 W2 G2 d2 hg3 hO3 hR2
  have zZ3 := Z3.lt
  have zL3 := L3.lt
  obtain ⟨⟨l0, l1, l2, l3, l4, l5, l6, l7, l8, l9, l10⟩, lf⟩ := L3.c11
  obtain ⟨⟨z0, z1, z2, z3, z4, z5, z6, z7, z8, z9, z10⟩, zf⟩ := Z3.c11
  have hw4 : lv.walls.length ≤ 4 := nw
  have hg4 : lv.gates.length ≤ 4 := by omega
  obtain ⟨hs, hhs⟩ : ∃ hs, hashesR lv ins = hs := ⟨_, rfl⟩
  have hs61 : hs.length ≤ 61 := by rw [← hhs]; exact hashesR_61 lv ins
  have hsb : hsB hs := fun x hx => hashesR_ok lv ins x (by rw [hhs]; exact hx)
  have HHS := Lib.hid hhs
  have HSB := Lib.hid hsb
  clear hhs hsb
  go_wp2
  go_region_held3 (fun w' => (w'.cell? ⟨M, 0, none⟩ = some (.int .i64 lv.id) ∧ w'.cell? ⟨M, 1, none⟩ = some (.int .i64 lv.ticks) ∧ w'.cell? ⟨M, 2, none⟩ = some (.int .i64 lv.start.x) ∧ w'.cell? ⟨M, 3, none⟩ = some (.int .i64 lv.start.y) ∧ w'.cell? ⟨M, 4, none⟩ = some (.slice A2 lv.walls.length c2) ∧ w'.cell? ⟨M, 5, none⟩ = some (.slice A3 lv.gates.length c3) ∧ w'.cell? ⟨M, 6, none⟩ = some (.int .i64 lv.fin.lo.x) ∧ w'.cell? ⟨M, 7, none⟩ = some (.int .i64 lv.fin.lo.y) ∧ w'.cell? ⟨M, 8, none⟩ = some (.int .i64 lv.fin.hi.x) ∧ w'.cell? ⟨M, 9, none⟩ = some (.int .i64 lv.fin.hi.y) ∧ w'.cell? ⟨M, 10, none⟩ = some (.int .i64 lv.bans)))
    (first | exact (show Bk _ M 29 #[.int .i64 lv.id, .int .i64 lv.ticks, .int .i64 lv.start.x, .int .i64 lv.start.y, .slice A2 lv.walls.length c2, .slice A3 lv.gates.length c3, .int .i64 lv.fin.lo.x, .int .i64 lv.fin.lo.y, .int .i64 lv.fin.hi.x, .int .i64 lv.fin.hi.y, .int .i64 lv.bans] by (repeat first | (with_reducible first | assumption | exact kN _ _ _ (by first | assumption | simp <;> omega) | refine kA ?_ _ | refine kD ?_ | refine kW ?_ _ | apply Bk.set' | refine kF ?_ (by simp <;> omega) _) | exact ⟨by with_reducible rfl⟩ | exact ⟨by simp⟩)).c11.1 | exact (L4.drew).c11.1 | exact L4.c11.1 | exact L5.c11.1 | exact L6.c11.1)
    ((first
      | (go_at_call 38; refine (l91Bent_any lv A2 A3 c2 c3 R (0 + 40 + 220) _ (by (with_reducible repeat first | assumption | refine RdL.alloc ?_ _ | refine RdL.drew ?_ | refine RdL.drewN ?_ _ | refine RdL.far ?_ (by first | omega | simp <;> omega) _ | refine RdL.later ?_ ‹_›)) (by omega) hw4 hg4 (W3.below (by (with_reducible repeat first | assumption | exact bl0 _ _ | refine blA ?_ _ | (refine blS ?_ ?_ _; (simp <;> omega)) | refine blD ?_ | refine blN ?_ _ | refine blF ?_ ‹_›))) (G3.below (by (with_reducible repeat first | assumption | exact bl0 _ _ | refine blA ?_ _ | (refine blS ?_ ?_ _; (simp <;> omega)) | refine blD ?_ | refine blN ?_ _ | refine blF ?_ ‹_›))) n2 n3 (fun a e => ⟨(bA a e).1, by have := (bA a e).2; first | omega | (simp; omega)⟩) (fun a e => ⟨(bA' a e).1, by have := (bA' a e).2; first | omega | (simp; omega)⟩)).mono ?_; rintro e w4 ⟨lb, B, B', k, k', rfl, ⟨nb, nb'⟩, W4, G4, e4, e4', hBR, hBR', hR4, hg5⟩; have L4 : Bk w4 M 29 #[.int .i64 lv.id, .int .i64 lv.ticks, .int .i64 lv.start.x, .int .i64 lv.start.y, .slice A2 lv.walls.length c2, .slice A3 lv.gates.length c3, .int .i64 lv.fin.lo.x, .int .i64 lv.fin.lo.y, .int .i64 lv.fin.hi.x, .int .i64 lv.fin.hi.y, .int .i64 lv.bans] := Bk.grown (by (repeat first | (with_reducible first | assumption | exact kN _ _ _ (by first | assumption | simp <;> omega) | refine kA ?_ _ | refine kD ?_ | refine kW ?_ _ | apply Bk.set' | refine kF ?_ (by simp <;> omega) _) | exact ⟨by with_reducible rfl⟩ | exact ⟨by simp⟩)) hg5 (by intro e; injection e; omega); have Z4 : Bk w4 w.heap.size 29 #[.int .i64 0, .int .i64 0, .int .i64 0, .int .i64 0, .slice none 0 0, .slice none 0 0, .int .i64 0, .int .i64 0, .int .i64 0, .int .i64 0, .int .i64 0] := Bk.grown (by (repeat first | (with_reducible first | assumption | exact kN _ _ _ (by first | assumption | simp <;> omega) | refine kA ?_ _ | refine kD ?_ | refine kW ?_ _ | apply Bk.set' | refine kF ?_ (by simp <;> omega) _) | exact ⟨by with_reducible rfl⟩ | exact ⟨by simp⟩)) hg5 (by intro e; injection e; omega); have O4 : Own w4 M 93 3 encInp (.slice A4 ins.length c4) ins := Own.gk (by (with_reducible repeat first | assumption | refine Own.fars ?_ ‹_› _ | refine Own.alloc ?_ _ | refine Own.drew ?_ | refine Own.drewN ?_ _ | refine Own.set (by first | omega | simp <;> omega) ?_ _ | refine Own.later ?_ ‹_› | refine Own.gk ?_ ‹_› (by omega))) hg5 hRM; have V4 : Sl w4 4 encBx A2 lv.walls.length lv.walls := Sl.grown (W3.below (by (with_reducible repeat first | assumption | exact bl0 _ _ | refine blA ?_ _ | (refine blS ?_ ?_ _; (simp <;> omega)) | refine blD ?_ | refine blN ?_ _ | refine blF ?_ ‹_›))) hg5 (fun a e e2 => by injection e2 with e2; have := (bA a e).1; omega); have X4 : Sl w4 4 encBx A3 lv.gates.length lv.gates := Sl.grown (G3.below (by (with_reducible repeat first | assumption | exact bl0 _ _ | refine blA ?_ _ | (refine blS ?_ ?_ _; (simp <;> omega)) | refine blD ?_ | refine blN ?_ _ | refine blF ?_ ‹_›))) hg5 (fun a e e2 => by injection e2 with e2; have := (bA' a e).1; omega); have d4 : Below w.heap.size w w4 := Below.grown (by (with_reducible repeat first | assumption | exact bl0 _ _ | refine blA ?_ _ | (refine blS ?_ ?_ _; (simp <;> omega)) | refine blD ?_ | refine blN ?_ _ | refine blF ?_ ‹_›)) hg5 (by have := d3.size; first | exact this | (simp; omega)) (fun k e => by cases e; omega))
      | (go_at_call 40; refine (specRunHashes_any lv ins A2 A3 A4 c2 c3 c4 _ (V4.below (by (with_reducible repeat first | assumption | exact bl0 _ _ | refine blA ?_ _ | (refine blS ?_ ?_ _; (simp <;> omega)) | refine blD ?_ | refine blN ?_ _ | refine blF ?_ ‹_›))) (X4.below (by (with_reducible repeat first | assumption | exact bl0 _ _ | refine blA ?_ _ | (refine blS ?_ ?_ _; (simp <;> omega)) | refine blD ?_ | refine blN ?_ _ | refine blF ?_ ‹_›))) ((O4.sl' encInp_len).below (by (with_reducible repeat first | assumption | exact bl0 _ _ | refine blA ?_ _ | (refine blS ?_ ?_ _; (simp <;> omega)) | refine blD ?_ | refine blN ?_ _ | refine blF ?_ ‹_›))) (by omega) (by omega) (by have := hP.2; omega)).mono ?_; rw [HHS.out]; rintro e w5 ⟨A6, c6, rfl, hc6, hO6, hb6⟩; have L5 : Bk w5 M 29 #[.int .i64 lv.id, .int .i64 lv.ticks, .int .i64 lv.start.x, .int .i64 lv.start.y, .slice A2 lv.walls.length c2, .slice A3 lv.gates.length c3, .int .i64 lv.fin.lo.x, .int .i64 lv.fin.lo.y, .int .i64 lv.fin.hi.x, .int .i64 lv.fin.hi.y, .int .i64 lv.bans] := Bk.later (by (repeat first | (with_reducible first | assumption | exact kN _ _ _ (by first | assumption | simp <;> omega) | refine kA ?_ _ | refine kD ?_ | refine kW ?_ _ | apply Bk.set' | refine kF ?_ (by simp <;> omega) _) | exact ⟨by with_reducible rfl⟩ | exact ⟨by simp⟩)) hb6; have Z5 : Bk w5 w.heap.size 29 #[.int .i64 0, .int .i64 0, .int .i64 0, .int .i64 0, .slice none 0 0, .slice none 0 0, .int .i64 0, .int .i64 0, .int .i64 0, .int .i64 0, .int .i64 0] := Bk.later (by (repeat first | (with_reducible first | assumption | exact kN _ _ _ (by first | assumption | simp <;> omega) | refine kA ?_ _ | refine kD ?_ | refine kW ?_ _ | apply Bk.set' | refine kF ?_ (by simp <;> omega) _) | exact ⟨by with_reducible rfl⟩ | exact ⟨by simp⟩)) hb6; have hR5 : RdL w5 R (0 + 40 + 220 + 30) := RdL.later (by (with_reducible repeat first | assumption | refine RdL.alloc ?_ _ | refine RdL.drew ?_ | refine RdL.drewN ?_ _ | refine RdL.far ?_ (by first | omega | simp <;> omega) _ | refine RdL.later ?_ ‹_›)) hb6; have O5 : Own w5 M 93 3 encInp (.slice A4 ins.length c4) ins := Own.later (by (with_reducible repeat first | assumption | refine Own.alloc ?_ _ | refine Own.drew ?_ | refine Own.set (by first | omega | simp <;> omega) ?_ _)) hb6; have W5 : Sl w5 4 encBx B lb.walls.length lb.walls := Sl.below (W4.below (by (with_reducible repeat first | assumption | exact bl0 _ _ | refine blA ?_ _ | (refine blS ?_ ?_ _; (simp <;> omega)) | refine blD ?_ | refine blN ?_ _ | refine blF ?_ ‹_›))) hb6; have G5 : Sl w5 4 encBx B' lb.gates.length lb.gates := Sl.below (G4.below (by (with_reducible repeat first | assumption | exact bl0 _ _ | refine blA ?_ _ | (refine blS ?_ ?_ _; (simp <;> omega)) | refine blD ?_ | refine blN ?_ _ | refine blF ?_ ‹_›))) hb6; have d5 : Below w.heap.size w w5 := below_after (by (with_reducible repeat first | assumption | exact bl0 _ _ | refine blA ?_ _ | (refine blS ?_ ?_ _; (simp <;> omega)) | refine blD ?_ | refine blN ?_ _ | refine blF ?_ ‹_›)) hb6)
      | (go_at_call 39; refine (l92Hashes_any A6 hs.length c6 hs R (0 + 40 + 220 + 30) _ (by (with_reducible repeat first | assumption | refine RdL.alloc ?_ _ | refine RdL.drew ?_ | refine RdL.drewN ?_ _ | refine RdL.far ?_ (by first | omega | simp <;> omega) _ | refine RdL.later ?_ ‹_›)) (by omega) ((hO6.sl' encInt_len).below (by (with_reducible repeat first | assumption | exact bl0 _ _ | refine blA ?_ _ | (refine blS ?_ ?_ _; (simp <;> omega)) | refine blD ?_ | refine blN ?_ _ | refine blF ?_ ‹_›))) hO6.none_cap HSB.out (by omega)).mono ?_; rintro e w6 ⟨cl, A5, c5, rfl, hB5, hl5, hO5, hR6, hg6⟩; have L6 : Bk w6 M 29 #[.int .i64 lv.id, .int .i64 lv.ticks, .int .i64 lv.start.x, .int .i64 lv.start.y, .slice A2 lv.walls.length c2, .slice A3 lv.gates.length c3, .int .i64 lv.fin.lo.x, .int .i64 lv.fin.lo.y, .int .i64 lv.fin.hi.x, .int .i64 lv.fin.hi.y, .int .i64 lv.bans] := Bk.grown (by (repeat first | (with_reducible first | assumption | exact kN _ _ _ (by first | assumption | simp <;> omega) | refine kA ?_ _ | refine kD ?_ | refine kW ?_ _ | apply Bk.set' | refine kF ?_ (by simp <;> omega) _) | exact ⟨by with_reducible rfl⟩ | exact ⟨by simp⟩)) hg6 (by intro e; injection e; omega); have Z6 : Bk w6 w.heap.size 29 #[.int .i64 0, .int .i64 0, .int .i64 0, .int .i64 0, .slice none 0 0, .slice none 0 0, .int .i64 0, .int .i64 0, .int .i64 0, .int .i64 0, .int .i64 0] := Bk.grown (by (repeat first | (with_reducible first | assumption | exact kN _ _ _ (by first | assumption | simp <;> omega) | refine kA ?_ _ | refine kD ?_ | refine kW ?_ _ | apply Bk.set' | refine kF ?_ (by simp <;> omega) _) | exact ⟨by with_reducible rfl⟩ | exact ⟨by simp⟩)) hg6 (by intro e; injection e; omega); clear z0 z1 z2 z3 z4 z5 z6 z7 z8 z9 z10 zf; have zZ6 := Z6.lt; obtain ⟨⟨z0, z1, z2, z3, z4, z5, z6, z7, z8, z9, z10⟩, zf⟩ := Z6.c11)))
  have O6 : Own w6 M 93 3 encInp (.slice A4 ins.length c4) ins := Own.gk (by (with_reducible repeat first | assumption | refine Own.fars ?_ ‹_› _ | refine Own.alloc ?_ _ | refine Own.drew ?_ | refine Own.drewN ?_ _ | refine Own.set (by first | omega | simp <;> omega) ?_ _ | refine Own.later ?_ ‹_› | refine Own.gk ?_ ‹_› (by omega))) hg6 hRM
  have W6 : Sl w6 4 encBx B lb.walls.length lb.walls := Sl.grown (W5.below (by (with_reducible repeat first | assumption | exact bl0 _ _ | refine blA ?_ _ | (refine blS ?_ ?_ _; (simp <;> omega)) | refine blD ?_ | refine blN ?_ _ | refine blF ?_ ‹_›))) hg6 (fun a e e2 => by injection e2 with e2; have := hBR a e; omega)
  have G6 : Sl w6 4 encBx B' lb.gates.length lb.gates := Sl.grown (G5.below (by (with_reducible repeat first | assumption | exact bl0 _ _ | refine blA ?_ _ | (refine blS ?_ ?_ _; (simp <;> omega)) | refine blD ?_ | refine blN ?_ _ | refine blF ?_ ‹_›))) hg6 (fun a e e2 => by injection e2 with e2; have := hBR' a e; omega)
  have d6 : Below w.heap.size w w6 := Below.grown (by (with_reducible repeat first | assumption | exact bl0 _ _ | refine blA ?_ _ | (refine blS ?_ ?_ _; (simp <;> omega)) | refine blD ?_ | refine blN ?_ _ | refine blF ?_ ‹_›)) hg6 (by have := d5.size; first | exact this | (simp; omega)) (fun k e => by cases e; omega)
  have y5 := Z5.lt
  have hc4a : ins.length ≤ c4 := by
    obtain ⟨_, _, hv, hcc, _⟩ := O6.form
    injection hv with _ _ hv
    omega
  have hc5a : cl.length ≤ c5 := by
    obtain ⟨_, _, hv, hcc, _⟩ := hO5.form
    injection hv with _ _ hv
    omega
  have hO4b : ∀ a, A4 = some a → w.heap.size + 1 ≤ a.block := fun a e => by subst e; have := (O6.lt a.block rfl).1; omega
  have hO5b : ∀ a, A5 = some a → w.heap.size + 1 ≤ a.block := fun a e => by subst e; have := (hO5.lt a.block rfl).1; first | omega | (simp at this; omega)
  have hBb : ∀ a, B = some a → w.heap.size + 1 ≤ a.block := fun a e => by have := hBR a e; omega
  have hBb' : ∀ a, B' = some a → w.heap.size + 1 ≤ a.block := fun a e => by have := hBR' a e; omega
  have hn4 := O6.none_cap
  have I6 := O6.sl' encInp_len
  have S6 := hO5.sl' encInt_len
  go_wp2
  refine bodyPost_ret (v := .tuple #[.agg #[.int .i64 lb.id, .int .i64 lb.ticks, .int .i64 lb.start.x, .int .i64 lb.start.y, .slice B lb.walls.length k, .slice B' lb.gates.length k', .int .i64 lb.fin.lo.x, .int .i64 lb.fin.lo.y, .int .i64 lb.fin.hi.x, .int .i64 lb.fin.hi.y, .int .i64 lb.bans], .slice A4 ins.length c4, .slice A5 cl.length c5]) (by simp [results, Tryz.results10, go_sem, *]) rfl ⟨lb, B, B', k, k', ins, A4, c4, cl, A5, c5, rfl, ⟨nb, nb', ?_, ?_, e4, e4', hP.2, ?_, hc4a, hn4⟩, hB5, by omega, hc5a, ?_, by (with_reducible repeat first | assumption | exact bl0 _ _ | refine blA ?_ _ | (refine blS ?_ ?_ _; (simp <;> omega)) | refine blD ?_ | refine blN ?_ _ | refine blF ?_ ‹_›)⟩
  · have hA6R := hBb
    (repeat (first | (with_reducible assumption) | (with_reducible refine Sl.far' ?_ (fun a e => Nat.ne_of_gt (Nat.lt_of_lt_of_le (by simp) (hA6R a e))) _)))
  · have hA6R := hBb'
    (repeat (first | (with_reducible assumption) | (with_reducible refine Sl.far' ?_ (fun a e => Nat.ne_of_gt (Nat.lt_of_lt_of_le (by simp) (hA6R a e))) _)))
  · have hA6R := hO4b
    (repeat (first | (with_reducible assumption) | (with_reducible refine Sl.far' ?_ (fun a e => Nat.ne_of_gt (Nat.lt_of_lt_of_le (by simp) (hA6R a e))) _)))
  · have hA6R := hO5b
    (repeat (first | (with_reducible assumption) | (with_reducible refine Sl.far' ?_ (fun a e => Nat.ne_of_gt (Nat.lt_of_lt_of_le (by simp) (hA6R a e))) _)))
end Go.Proofs.YtlegilbiapbfkaaGreat
