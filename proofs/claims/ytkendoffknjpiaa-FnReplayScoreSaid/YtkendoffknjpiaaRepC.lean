/- Replays: the laws' sizes, conversions, comparisons, marks. -/
import Derived.Test.YtkendoffknjpiaaReps
namespace Go.Proofs.Ytkendoffknjpiaa
open Go.ChangeShapes Go.WideShapes Go.ChangeAt Go.RowKit
def szRep (ni nh : Nat) (k : Int) : Int := if szL ni k < 0 then -1 else szL nh (szL ni k)
theorem szL_bd {n : Nat} {k : Int} (h : k ≤ 1048576) (h0 : -1 ≤ k) : -1 ≤ szL n k ∧ szL n k ≤ 1048576 := by unfold szL; split <;> omega
theorem szL_neg {n : Nat} {k : Int} (h : k < 0) : szL n k < 0 := by unfold szL; split <;> omega
theorem szReplay_any (v0 v1 v2 v5 : Value) (A A' : Option Addr) (n n' c c' : Nat) (k : Int) (w : World) (hk0 : -1 ≤ k) (hk1 : k ≤ 1048576) (hn : n ≤ 9223372036854775807) (hn' : n' ≤ 9223372036854775807) :
    Calls Try.prog 21 #[.agg #[v0, v1, v2, .slice A n c, .slice A' n' c', v5], .int .i64 k] w fun e w' => e = .returned (.int .i64 (szRep n n' k)) ∧ Below w.heap.size w w' := by
  have hz := szL_bd (n := n) hk1 hk0
  by_cases hs : szL n k < 0
  · have H := Lib.hid hs
    go_enter Try.func21, Try.ntmps21
    go_wp2_with (go_at_call 35; refine (szInputS_any _ _ _ _ _ (by omega) (by omega) (by omega)).mono ?_; rintro e w' ⟨rfl, rfl⟩)
    go_ret
    exact ⟨ret_int (by unfold szRep; rw [if_pos H.out]), by repeat (first | exact Below.refl _ _ | refine Below.alloc ?_ (by simp <;> omega) _)⟩
  · have hz2 := szL_bd (n := n') hz.2 hz.1
    have H := Lib.hid hs
    by_cases hs2 : szL n' (szL n k) < 0
    all_goals
      go_enter Try.func21, Try.ntmps21
      go_wp2_with (first | (go_at_call 35; refine (szInputS_any _ _ _ _ _ (by omega) (by omega) (by omega)).mono ?_; rintro e w' ⟨rfl, rfl⟩) | (go_at_call 58; refine (szIntS_any _ _ _ _ _ (by omega) (by omega) (by omega)).mono ?_; rintro e w' ⟨rfl, rfl⟩))
      go_ret
      exact ⟨ret_int (by unfold szRep; rw [if_neg (by have := H.out; omega)]; try omega), by repeat (first | exact Below.refl _ _ | refine Below.alloc ?_ (by simp <;> omega) _)⟩
/-- A call hands back a replay whose two slices are the call's own. -/
def RetRep (r : Rep) (w : World) (e : Ending) (w' : World) : Prop :=
  ∃ A c A' c', e = .returned (.agg #[.int .i64 r.lv, .int .i64 r.pl, .int .i64 r.sc, .slice A r.ins.length c, .slice A' r.hs.length c', .int .i64 r.tag]) ∧
    Own w' w.heap.size 60 3 encInp (.slice A r.ins.length c) r.ins ∧ Own w' w.heap.size 3 1 encInt (.slice A' r.hs.length c') r.hs ∧ Below w.heap.size w w'
/-- The same, and the two slices lie apart. -/
def RetRepS (r : Rep) (w : World) (e : Ending) (w' : World) : Prop :=
  ∃ A c A' c', e = .returned (.agg #[.int .i64 r.lv, .int .i64 r.pl, .int .i64 r.sc, .slice A r.ins.length c, .slice A' r.hs.length c', .int .i64 r.tag]) ∧
    Own w' w.heap.size 60 3 encInp (.slice A r.ins.length c) r.ins ∧ Own w' w.heap.size 3 1 encInt (.slice A' r.hs.length c') r.hs ∧ Below w.heap.size w w' ∧
    (∀ g g', (Value.slice A r.ins.length c).ownBlock = some g → (Value.slice A' r.hs.length c').ownBlock = some g' → g < g')
set_option maxRecDepth 100000 in
theorem toReplay_sep (A A' : Option Addr) (c c' : Nat) (r : Rep) (w : World) (h : Sl w 3 encInp A r.ins.length r.ins) (h' : Sl w 1 encInt A' r.hs.length r.hs) (hn : r.ins.length ≤ 2097152) (hn' : r.hs.length ≤ 2097152) :
    Calls Try.prog 23 #[.agg #[.int .i64 r.lv, .int .i64 r.pl, .int .i64 r.sc, .slice A r.ins.length c, .slice A' r.hs.length c', .int .i64 r.tag]] w (RetRepS r w) := by
  go_enter Try.func23, Try.ntmps23
  go_wp2_with (first
    | (go_at_call 37; refine (toInputS_any _ _ _ r.ins _ (h.below ?_) hn).mono ?_; (repeat (first | (with_reducible refine below_alloc ?_ _) | (with_reducible refine below_setCell ?_ ?_ _; (simp <;> omega)) | (with_reducible refine below_drew ?_) | (with_reducible refine below_drewN ?_ _) | (with_reducible refine below_after ?_ (by assumption)) | (with_reducible exact Below.refl _ _))); rintro e w1 ⟨A1, c1, rfl, hc1, ho1, hb1⟩; obtain ⟨hcc, hff⟩ := bcell hb1; have hz1 : w.heap.size + 1 + 1 < w1.heap.size := (by have := hb1.size; simp at this; omega); have hy1 : w.heap.size + 1 < w1.heap.size := (by omega); have hx1 : w.heap.size < w1.heap.size := (by omega))
    | (go_at_call 61; refine (toIntS_any _ _ _ r.hs _ (h'.below ?_) hn').mono ?_; (repeat (first | (with_reducible refine below_alloc ?_ _) | (with_reducible refine below_setCell ?_ ?_ _; (simp <;> omega)) | (with_reducible refine below_drew ?_) | (with_reducible refine below_drewN ?_ _) | (with_reducible refine below_after ?_ (by assumption)) | (with_reducible exact Below.refl _ _))); rintro e w2 ⟨A2, c2, rfl, hc2, ho2, hb2⟩; obtain ⟨hcc2, hff2⟩ := bcell hb2; have hz2 : w.heap.size + 1 + 1 < w2.heap.size := (by have := hb2.size; simp at this; omega); have hy2 : w.heap.size + 1 < w2.heap.size := (by omega); have hx2 : w.heap.size < w2.heap.size := (by omega)))
  refine bodyPost_ret (v := .agg #[.int .i64 r.lv, .int .i64 r.pl, .int .i64 r.sc, .slice A1 r.ins.length c1, .slice A2 r.hs.length c2, .int .i64 r.tag]) (by simp [results, Try.results23, go_sem, hcc2, hcc, hy1]) rfl ?_
  refine ⟨A1, c1, A2, c2, rfl, ?_, ?_, by (repeat (first | (with_reducible refine below_alloc ?_ _) | (with_reducible refine below_setCell ?_ ?_ _; (simp <;> omega)) | (with_reducible refine below_drew ?_) | (with_reducible refine below_drewN ?_ _) | (with_reducible refine below_after ?_ (by assumption)) | (with_reducible exact Below.refl _ _))), ?_⟩
  · refine Own.mono (B := w.heap.size + 1 + 1 + 1) ?_ (by omega)
    have ho3 := ho1.mono (B' := w.heap.size + 1 + 1 + 1) (by simp)
    repeat (first | (with_reducible exact ho3) | (with_reducible refine Own.set ?_ ?_ _; (simp <;> omega)) | (with_reducible refine Own.later ?_ (by assumption)))
  · refine Own.mono (B := w.heap.size + 1 + 1 + 1) ?_ (by omega)
    have ho3 := ho2.mono (B' := w.heap.size + 1 + 1 + 1) (by simp; omega)
    repeat (first | (with_reducible exact ho3) | (with_reducible refine Own.set ?_ ?_ _; (simp <;> omega)) | (with_reducible refine Own.later ?_ (by assumption)))
  · intro g g' h1 h2
    have := (ho1.lt g h1).2
    have := (ho2.lt g' h2).1
    simp at this
    omega
theorem toReplay_any (A A' : Option Addr) (c c' : Nat) (r : Rep) (w : World) (h : Sl w 3 encInp A r.ins.length r.ins) (h' : Sl w 1 encInt A' r.hs.length r.hs) (hn : r.ins.length ≤ 2097152) (hn' : r.hs.length ≤ 2097152) :
    Calls Try.prog 23 #[.agg #[.int .i64 r.lv, .int .i64 r.pl, .int .i64 r.sc, .slice A r.ins.length c, .slice A' r.hs.length c', .int .i64 r.tag]] w (RetRep r w) :=
  (toReplay_sep A A' c c' r w h h' hn hn').mono fun _ _ ⟨A1, c1, A2, c2, h1, h2, h3, h4, _⟩ => ⟨A1, c1, A2, c2, h1, h2, h3, h4⟩
theorem eqInputS_same (A A' : Option Addr) (n n' c c' : Nat) (l : List Inp) (w : World) (h : Sl w 3 encInp A n l) (h' : Sl w 3 encInp A' n' l) (hn : n ≤ 2097152) (hn' : n' ≤ 2097152) :
    Calls Try.prog 30 #[.slice A n c, .slice A' n' c'] w fun e w' => e = .returned (.bool true) ∧ Below w.heap.size w w' :=
  (eqInputS_any A A' n n' c c' l l w h h' hn hn').mono fun e w' ⟨h1, h2⟩ => ⟨by rw [h1, (eqL_iff eqInp_iff l l).2 rfl], h2⟩
theorem eqIntS_same (A A' : Option Addr) (n n' c c' : Nat) (l : List Int) (w : World) (h : Sl w 1 encInt A n l) (h' : Sl w 1 encInt A' n' l) (hn : n ≤ 2097152) (hn' : n' ≤ 2097152) :
    Calls Try.prog 42 #[.slice A n c, .slice A' n' c'] w fun e w' => e = .returned (.bool true) ∧ Below w.heap.size w w' :=
  (eqIntS_any A A' n n' c c' l l w h h' hn hn').mono fun e w' ⟨h1, h2⟩ => ⟨by rw [h1, (eqL_iff eqInt_iff l l).2 rfl], h2⟩
set_option maxRecDepth 100000 in
theorem eqReplay_same (A A' A2 A2' : Option Addr) (c c' c2 c2' : Nat) (r : Rep) (w : World) (h : Sl w 3 encInp A r.ins.length r.ins) (h' : Sl w 1 encInt A' r.hs.length r.hs) (h2 : Sl w 3 encInp A2 r.ins.length r.ins) (h2' : Sl w 1 encInt A2' r.hs.length r.hs) (hn : r.ins.length ≤ 2097152) (hn' : r.hs.length ≤ 2097152) :
    Calls Try.prog 25 #[.agg #[.int .i64 r.lv, .int .i64 r.pl, .int .i64 r.sc, .slice A r.ins.length c, .slice A' r.hs.length c', .int .i64 r.tag], .agg #[.int .i64 r.lv, .int .i64 r.pl, .int .i64 r.sc, .slice A2 r.ins.length c2, .slice A2' r.hs.length c2', .int .i64 r.tag]] w
      fun e w' => e = .returned (.bool true) ∧ Below w.heap.size w w' := by
  go_enter Try.func25, Try.ntmps25
  go_wp2_with (first
    | (go_at_call 30; refine (eqInputS_same _ _ _ _ _ _ r.ins _ (h.below ?_) (h2.below ?_) hn hn).mono ?_; (repeat (first | (with_reducible refine below_alloc ?_ _) | (with_reducible refine below_setCell ?_ ?_ _; (simp <;> omega)) | (with_reducible refine below_drew ?_) | (with_reducible refine below_drewN ?_ _) | (with_reducible refine below_after ?_ (by assumption)) | (with_reducible exact Below.refl _ _))); (repeat (first | (with_reducible refine below_alloc ?_ _) | (with_reducible refine below_setCell ?_ ?_ _; (simp <;> omega)) | (with_reducible refine below_drew ?_) | (with_reducible refine below_drewN ?_ _) | (with_reducible refine below_after ?_ (by assumption)) | (with_reducible exact Below.refl _ _))); rintro e w1 ⟨rfl, hb1⟩; obtain ⟨hcc, hff⟩ := bcell hb1; have hy1 : w.heap.size + 1 < w1.heap.size := (by have := hb1.size; simp at this; omega); have hx1 : w.heap.size < w1.heap.size := (by omega))
    | (go_at_call 42; refine (eqIntS_same _ _ _ _ _ _ r.hs _ (h'.below ?_) (h2'.below ?_) hn' hn').mono ?_; (repeat (first | (with_reducible refine below_alloc ?_ _) | (with_reducible refine below_setCell ?_ ?_ _; (simp <;> omega)) | (with_reducible refine below_drew ?_) | (with_reducible refine below_drewN ?_ _) | (with_reducible refine below_after ?_ (by assumption)) | (with_reducible exact Below.refl _ _))); (repeat (first | (with_reducible refine below_alloc ?_ _) | (with_reducible refine below_setCell ?_ ?_ _; (simp <;> omega)) | (with_reducible refine below_drew ?_) | (with_reducible refine below_drewN ?_ _) | (with_reducible refine below_after ?_ (by assumption)) | (with_reducible exact Below.refl _ _))); rintro e w2 ⟨rfl, hb2⟩; obtain ⟨hcc2, hff2⟩ := bcell hb2))
  go_ret
  exact ⟨rfl, by (repeat (first | (with_reducible refine below_alloc ?_ _) | (with_reducible refine below_setCell ?_ ?_ _; (simp <;> omega)) | (with_reducible refine below_drew ?_) | (with_reducible refine below_drewN ?_ _) | (with_reducible refine below_after ?_ (by assumption)) | (with_reducible exact Below.refl _ _)))⟩
theorem keep66 {w w' : World} {N M : Nat} {v0 v1 v2 v3 v4 v5 u0 u1 u2 u3 u4 u5 : Value} (hB : Blk w N [v0, v1, v2, v3, v4, v5]) (hD : Blk w M [u0, u1, u2, u3, u4, u5]) (z : Below w.heap.size w w') : Below w.heap.size w w' ∧ w'.cell? ⟨N, 0, none⟩ = some v0 ∧ w'.cell? ⟨N, 1, none⟩ = some v1 ∧ w'.cell? ⟨N, 2, none⟩ = some v2 ∧ w'.cell? ⟨N, 3, none⟩ = some v3 ∧ w'.cell? ⟨N, 4, none⟩ = some v4 ∧ w'.cell? ⟨N, 5, none⟩ = some v5 ∧ w'.cell? ⟨M, 0, none⟩ = some u0 ∧ w'.cell? ⟨M, 1, none⟩ = some u1 ∧ w'.cell? ⟨M, 2, none⟩ = some u2 ∧ w'.cell? ⟨M, 3, none⟩ = some u3 ∧ w'.cell? ⟨M, 4, none⟩ = some u4 ∧ w'.cell? ⟨M, 5, none⟩ = some u5 := ⟨z, (hB.later z).2 0 _ rfl, (hB.later z).2 1 _ rfl, (hB.later z).2 2 _ rfl, (hB.later z).2 3 _ rfl, (hB.later z).2 4 _ rfl, (hB.later z).2 5 _ rfl, (hD.later z).2 0 _ rfl, (hD.later z).2 1 _ rfl, (hD.later z).2 2 _ rfl, (hD.later z).2 3 _ rfl, (hD.later z).2 4 _ rfl, (hD.later z).2 5 _ rfl⟩
end Go.Proofs.Ytkendoffknjpiaa
