/- Draws of replays: DrawReplayValid, DrawReplayList. -/
import Derived.Test.YtdpoicfciogfnaaDoorDrG
namespace Go.Proofs.YtdpoicfciogfnaaDoor
open Go.ChangeShapes Go.WideShapes Go.ChangeAt Go.RowKit
def RetDr (w : World) (e : Ending) (w' : World) : Prop :=
  ∃ r A c A' c', e = .returned (.agg #[.int .i64 r.lv, .int .i64 r.pl, .int .i64 r.sc, .slice A r.ins.length c, .slice A' r.hs.length c', .int .i64 r.tag]) ∧ LieP r ∧ Own w' w.heap.size 68 3 encInp (.slice A r.ins.length c) r.ins ∧ Own w' w.heap.size 3 1 encInt (.slice A' r.hs.length c') r.hs ∧ Below w.heap.size w w'
theorem replayOk_len {r : Rep} (h : replayOk r = true) : r.ins.length ≤ 60 ∧ r.hs.length ≤ 12 := by
  have := replayOk_bd h
  omega
set_option maxRecDepth 100000 in
set_option maxHeartbeats 2000000 in
theorem drawReplayValid_any (A : Option Addr) (n c : Nat) (l : List Int) (w : World) (h : Sl w 1 encU8 A n l) (hl : ∀ x ∈ l, 0 ≤ x ∧ x < 256) (hn : n ≤ 9223372036854775807) (hnc : n ≤ c) (hc : c ≤ 9223372036854775807) :
    Calls Tryd.prog 27 #[.slice A n c] w (RetDr w) := by
  go_enter Tryd.func27, Tryd.ntmps27
  go_wp2_with fail
  refine (l6Open_n A n c l _ (h.below (below_alloc (Below.refl _ _) _)) hl hn hnc hc).mono ?_
  rintro e w1 ⟨R, rfl, hRw, hR1, hb1⟩
  simp only [World.size_alloc] at hRw
  have C1 : Bk w1 w.heap.size 30 #[.int .i64 0, .int .i64 0, .int .i64 0, .slice none 0 0, .slice none 0 0, .int .i64 0] := (Bk.new w _ _ rfl).later hb1
  have hd1 := below_after (below_alloc (Below.refl w.heap.size w) _) hb1
  have hRl := hR1.lt
  clear hb1 h hl
  go_wp2_with fail
  refine (l92Good_any R 0 _ hR1 (by omega)).mono ?_
  rintro e w2 ⟨lv, A2, c2, A3, c3, key, r, A4, c4, A5, c5, rfl, hLD, hk1, hk2, hok, _, _, hP2, hO2, hR2, hg2⟩
  have C2 := C1.grown hg2 (by intro e; injection e; omega)
  have hd2 := hd1.grown hg2 hd1.size (fun k e => by cases e; omega)
  have hln := replayOk_len hok
  have HL := Lib.hid (LieP.of_ok hok)
  have hs2 := hg2.size
  clear C1 hd1 hR1 hg2 hLD hok
  have hRl2 := hR2.lt
  go_wp2_with fail
  refine (l92Lie_any r key A4 A5 c4 c5 R (0 + 600) _ (by (with_reducible repeat first | assumption | refine RdL.alloc ?_ _ | refine RdL.drew ?_ | refine RdL.drewN ?_ _ | refine RdL.far ?_ (by first | omega | simp <;> omega) _ | refine RdL.later ?_ ‹_›)) (by omega) HL.out ⟨hk1, hk2⟩ ((hP2.sl' encInp_len).below (by (with_reducible repeat first | assumption | exact bl0 _ _ | refine blA ?_ _ | (refine blS ?_ ?_ _; (simp <;> omega)) | refine blD ?_ | refine blN ?_ _ | refine blF ?_ ‹_›))) ((hO2.sl' encInt_len).below (by (with_reducible repeat first | assumption | exact bl0 _ _ | refine blA ?_ _ | (refine blS ?_ ?_ _; (simp <;> omega)) | refine blD ?_ | refine blN ?_ _ | refine blF ?_ ‹_›))) hP2.none_cap hO2.none_cap hln.1 hln.2).mono ?_
  rintro e w3 ⟨r3, A6, c6, A7, c7, rfl, hL3, hP3, hO3, hR3, hg3⟩
  have C3 := ((C2.alloc (.cells #[.int .i64 lv.id, .int .i64 lv.ticks, .int .i64 lv.start.x, .int .i64 lv.start.y, .slice A2 lv.walls.length c2, .slice A3 lv.gates.length c3, .int .i64 lv.fin.lo.x, .int .i64 lv.fin.lo.y, .int .i64 lv.fin.hi.x, .int .i64 lv.fin.hi.y, .int .i64 lv.bans] 87)).alloc (.cells #[.int .i64 r.lv, .int .i64 r.pl, .int .i64 r.sc, .slice A4 r.ins.length c4, .slice A5 r.hs.length c5, .int .i64 r.tag] 30)).grown hg3 (by intro e; injection e; omega)
  have hd3 := (below_alloc (below_alloc hd2 (.cells #[.int .i64 lv.id, .int .i64 lv.ticks, .int .i64 lv.start.x, .int .i64 lv.start.y, .slice A2 lv.walls.length c2, .slice A3 lv.gates.length c3, .int .i64 lv.fin.lo.x, .int .i64 lv.fin.lo.y, .int .i64 lv.fin.hi.x, .int .i64 lv.fin.hi.y, .int .i64 lv.bans] 87)) (.cells #[.int .i64 r.lv, .int .i64 r.pl, .int .i64 r.sc, .slice A4 r.ins.length c4, .slice A5 r.hs.length c5, .int .i64 r.tag] 30)).grown hg3 (by have := hd2.size; simp; omega) (fun k e => by cases e; omega)
  have P3 := hP3.mono (B' := w.heap.size + 1) (by have := C2.lt; simp; omega)
  have O3 := hO3.mono (B' := w.heap.size + 1) (by have := C2.lt; simp; omega)
  have HL3 := Lib.hid hL3
  clear C2 hd2 hR2 hP2 hO2 hP3 hO3 hR3 hg3 hL3
  have zC := C3.lt
  obtain ⟨⟨b0, b1, b2, b3, b4, b5⟩, bf⟩ := C3.c6
  go_wp2
  refine bodyPost_ret (v := .agg #[.int .i64 r3.lv, .int .i64 r3.pl, .int .i64 r3.sc, .slice A6 r3.ins.length c6, .slice A7 r3.hs.length c7, .int .i64 r3.tag]) (by simp [results, Tryd.results27, go_sem, *]) rfl ⟨r3, A6, c6, A7, c7, rfl, HL3.out, ?_, ?_, by (with_reducible repeat first | assumption | exact bl0 _ _ | refine blA ?_ _ | (refine blS ?_ ?_ _; (simp <;> omega)) | refine blD ?_ | refine blN ?_ _ | refine blF ?_ ‹_›)⟩
  · refine Own.mono (B := w.heap.size + 1) ?_ (by omega)
    (with_reducible repeat first | assumption | refine Own.fars ?_ ‹_› _ | refine Own.alloc ?_ _ | refine Own.drew ?_ | refine Own.drewN ?_ _ | refine Own.set (by first | omega | simp <;> omega) ?_ _ | refine Own.later ?_ ‹_› | refine Own.gk ?_ ‹_› (by omega))
  · refine Own.mono (B := w.heap.size + 1) ?_ (by omega)
    (with_reducible repeat first | assumption | refine Own.fars ?_ ‹_› _ | refine Own.alloc ?_ _ | refine Own.drew ?_ | refine Own.drewN ?_ _ | refine Own.set (by first | omega | simp <;> omega) ?_ _ | refine Own.later ?_ ‹_› | refine Own.gk ?_ ‹_› (by omega))
end Go.Proofs.YtdpoicfciogfnaaDoor
