/- What the laws of made replays lean on: sameReplay, what a made replay is. (Round B, seat Z) -/
import Derived.Test.YtmfhfebakdkkdaaGreatImpW
import Derived.Test.YtmfhfebakdkkdaaGreatRunR
namespace Go.Proofs.YtmfhfebakdkkdaaGreat
open Go.ChangeShapes Go.WideShapes Go.ChangeAt Go.RowKit
theorem RetRepB.flip {r : Rep} {b : Bool} {w w' : World} {e : Ending} (h : RetRepB r b w e w') : ∃ A c A' c', e = .returned (.tuple #[.agg #[.int .i64 r.lv, .int .i64 r.pl, .int .i64 r.sc, .slice A r.ins.length c, .slice A' r.hs.length c', .int .i64 r.tag], .bool b]) ∧ Own w' w.heap.size 89 3 encInp (.slice A r.ins.length c) r.ins ∧ Own w' w.heap.size 3 1 encInt (.slice A' r.hs.length c') r.hs ∧
    (∀ g g', (Value.slice A r.ins.length c).ownBlock = some g → (Value.slice A' r.hs.length c').ownBlock = some g' → g ≠ g') ∧ Below w.heap.size w w' := by
  obtain ⟨A, c, A', c', h1, h2, h3, h4, h5⟩ := h
  exact ⟨A, c, A', c', h1, h2, h3, h5, h4⟩
theorem keepRp {W w' : World} {g : Nat} {t : TypeId} {v0 v1 v2 v3 v4 v5 : Value} (h : Bk W g t #[v0, v1, v2, v3, v4, v5]) (hb : Below W.heap.size W w') :
    w'.cell? ⟨g, 0, none⟩ = some v0 ∧ w'.cell? ⟨g, 1, none⟩ = some v1 ∧ w'.cell? ⟨g, 2, none⟩ = some v2 ∧ w'.cell? ⟨g, 3, none⟩ = some v3 ∧ w'.cell? ⟨g, 4, none⟩ = some v4 ∧ w'.cell? ⟨g, 5, none⟩ = some v5 := (h.later hb).c6.1
theorem makeR_yes {l : Lev} {pl key : Int} {ins : List Inp} (h : makeOk l pl key ins = true) : ∃ (mx : Int) (hs : List Int) (tg : Int), makeR l pl key ins = ⟨l.id, pl, mx, ins, hs, tg⟩ ∧ mx = max (scoreR l ins) 0 ∧ hs = hashesR l ins ∧ tagL key (repList ⟨l.id, pl, mx, ins, hs, tg⟩) = tg ∧ replayOk ⟨l.id, pl, mx, ins, hs, tg⟩ = true ∧ ins.length ≤ 60 ∧ hs.length ≤ 12 := by
  obtain ⟨h1, h2, h3⟩ := makeOk_iff.1 h
  have hk : makeR l pl key ins = makeRep l pl key ins := by unfold makeR; rw [h]; rfl
  have hr := makeRep_ok h
  have h60 := (runOk_bd h1).2.1
  have hl := hashesR_len h1
  exact ⟨_, _, _, hk, rfl, rfl, rfl, hr, h60, by omega⟩
theorem makeR_no {l : Lev} {pl key : Int} {ins : List Inp} (h : makeOk l pl key ins = false) : (makeR l pl key ins).ins.length ≤ 60 ∧ (makeR l pl key ins).hs.length ≤ 12 := by
  have hk : makeR l pl key ins = zeroRep := by unfold makeR; rw [h]; rfl
  rw [hk]; exact ⟨Nat.zero_le _, Nat.zero_le _⟩
theorem sameReplay_same (r : Rep) (A A' B B' : Option Addr) (c c' d d' : Nat) (w : World) (h : Sl w 3 encInp A r.ins.length r.ins) (h' : Sl w 1 encInt A' r.hs.length r.hs) (g : Sl w 3 encInp B r.ins.length r.ins) (g' : Sl w 1 encInt B' r.hs.length r.hs) (hn : r.ins.length ≤ 2097152) (hn' : r.hs.length ≤ 2097152) :
    Calls Tryz.prog 9 #[.agg #[.int .i64 r.lv, .int .i64 r.pl, .int .i64 r.sc, .slice A r.ins.length c, .slice A' r.hs.length c', .int .i64 r.tag], .agg #[.int .i64 r.lv, .int .i64 r.pl, .int .i64 r.sc, .slice B r.ins.length d, .slice B' r.hs.length d', .int .i64 r.tag]] w fun e w' => e = .returned (.bool (true)) ∧ Below w.heap.size w w' := by
  go_enter Tryz.func9, Tryz.ntmps9
  go_wp2_with fail
  refine (sameInputs_any A B _ _ c d r.ins r.ins _ (h.below (by (repeat (first | (with_reducible assumption) | (with_reducible exact Below.refl _ _) | (with_reducible refine below_alloc ?_ _) | (with_reducible refine below_setCell ?_ ?_ _; (simp <;> omega)) | (with_reducible refine below_drew ?_) | (with_reducible refine below_drewN ?_ _) | (with_reducible refine below_after ?_ (by assumption)))))) (g.below (by (repeat (first | (with_reducible assumption) | (with_reducible exact Below.refl _ _) | (with_reducible refine below_alloc ?_ _) | (with_reducible refine below_setCell ?_ ?_ _; (simp <;> omega)) | (with_reducible refine below_drew ?_) | (with_reducible refine below_drewN ?_ _) | (with_reducible refine below_after ?_ (by assumption)))))) hn hn).mono ?_
  rw [(eqL_iff eqInp_iff r.ins r.ins).2 rfl]
  rintro e w1 ⟨rfl, hb1⟩
  have R1 : Bk w1 w.heap.size 35 #[.int .i64 r.lv, .int .i64 r.pl, .int .i64 r.sc, .slice A r.ins.length c, .slice A' r.hs.length c', .int .i64 r.tag] := Bk.later (by (repeat (first | (with_reducible assumption) | (with_reducible exact Bk.new _ _ _ (by simp; done)) | (with_reducible refine Bk.alloc ?_ _) | (with_reducible refine Bk.drew ?_) | (with_reducible refine Bk.drewN ?_ _) | (with_reducible apply Bk.set') | (with_reducible refine Bk.far ?_ (by first | omega | (simp; done) | (simp; omega)) _) | (with_reducible refine Bk.later ?_ (by assumption)) | (with_reducible refine Bk.grown ?_ (by assumption) (by first | omega | (simp; done) | (simp; omega))) | (exact SetTo.mk (by with_reducible rfl)) | (exact SetTo.mk (by simp))))) hb1
  have Q1 : Bk w1 (w.heap.size + 1) 35 #[.int .i64 r.lv, .int .i64 r.pl, .int .i64 r.sc, .slice B r.ins.length d, .slice B' r.hs.length d', .int .i64 r.tag] := Bk.later (by (repeat (first | (with_reducible assumption) | (with_reducible exact Bk.new _ _ _ (by simp; done)) | (with_reducible refine Bk.alloc ?_ _) | (with_reducible refine Bk.drew ?_) | (with_reducible refine Bk.drewN ?_ _) | (with_reducible apply Bk.set') | (with_reducible refine Bk.far ?_ (by first | omega | (simp; done) | (simp; omega)) _) | (with_reducible refine Bk.later ?_ (by assumption)) | (with_reducible refine Bk.grown ?_ (by assumption) (by first | omega | (simp; done) | (simp; omega))) | (exact SetTo.mk (by with_reducible rfl)) | (exact SetTo.mk (by simp))))) hb1
  have d1 : Below w.heap.size w w1 := below_after (by (repeat (first | (with_reducible assumption) | (with_reducible exact Below.refl _ _) | (with_reducible refine below_alloc ?_ _) | (with_reducible refine below_setCell ?_ ?_ _; (simp <;> omega)) | (with_reducible refine below_drew ?_) | (with_reducible refine below_drewN ?_ _) | (with_reducible refine below_after ?_ (by assumption))))) hb1
  clear hb1
  obtain ⟨⟨x0, x1, x2, x3, x4, x5⟩, xf⟩ := R1.c6; obtain ⟨⟨y0, y1, y2, y3, y4, y5⟩, yf⟩ := Q1.c6
  go_wp2_with fail
  refine (sameInts_same A' B' _ _ c' d' r.hs _ (h'.below d1) (g'.below d1) hn' hn').mono ?_
  rintro e w2 ⟨rfl, hb2⟩
  go_wp2
  go_ret
  exact ⟨rfl, by (repeat (first | (with_reducible assumption) | (with_reducible exact Below.refl _ _) | (with_reducible refine below_alloc ?_ _) | (with_reducible refine below_setCell ?_ ?_ _; (simp <;> omega)) | (with_reducible refine below_drew ?_) | (with_reducible refine below_drewN ?_ _) | (with_reducible refine below_after ?_ (by assumption))))⟩
end Go.Proofs.YtmfhfebakdkkdaaGreat
