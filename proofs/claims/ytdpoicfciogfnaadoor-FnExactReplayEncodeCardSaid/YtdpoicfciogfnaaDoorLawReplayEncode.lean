/- The law FnExactReplayEncode: its walk. (Seat D) -/
import Derived.Test.YtdpoicfciogfnaaDoorEncI
import Derived.Test.YtdpoicfciogfnaaDoorZBase
import Derived.Deep.RegionHeld3
import Derived.Deep.DeepMust
namespace Go.Proofs.YtdpoicfciogfnaaDoor
open Go.ChangeShapes Go.WideShapes Go.ChangeAt Go.RowKit
theorem szRep_ok3 {n n' : Nat} (h : ¬ szRep n n' 1048576 < 0) : n ≤ 1048576 ∧ n' ≤ 1048576 := by
  unfold szRep szL at h; split at h <;> omega
set_option maxRecDepth 100000 in
set_option maxHeartbeats 1000000 in
theorem lawReplayEncode (A A' : Option Addr) (c c' : Nat) (r : Rep) (w : World) (h : Sl w 3 encInp A r.ins.length r.ins) (h' : Sl w 1 encInt A' r.hs.length r.hs) (hn : r.ins.length ≤ 9223372036854775807) (hn' : r.hs.length ≤ 9223372036854775807) (ht : Tab w) :
    Calls Tryd.prog 3 #[.agg #[.int .i64 r.lv, .int .i64 r.pl, .int .i64 r.sc, .slice A r.ins.length c, .slice A' r.hs.length c', .int .i64 r.tag]] w fun e w' => e = .returned (.bool true) ∧ Below w.heap.size w w' := by
  have HT := Lib.hid ht
  clear ht
  obtain ⟨E, hE⟩ : ∃ E, encR r = E := ⟨_, rfl⟩
  have HE := Lib.hid hE
  clear hE
  by_cases hs : szRep r.ins.length r.hs.length 1048576 < 0
  · go_enter Tryd.func3, Tryd.ntmps3
    go_wp2_with (go_at_call 6; refine (szReplay_any _ _ _ _ _ _ _ _ _ _ _ _ (by omega) (by omega) hn hn').mono ?_; rintro e w1 ⟨rfl, hb1⟩)
    go_ret
    exact ⟨rfl, by (repeat (first | (with_reducible refine below_alloc ?_ _) | (with_reducible refine below_setCell ?_ ?_ _; (simp <;> omega)) | (with_reducible refine below_drew ?_) | (with_reducible refine below_drewN ?_ _) | (with_reducible refine below_after ?_ (by assumption)) | (with_reducible exact Below.refl _ _)))⟩
  · obtain ⟨hm, hm'⟩ := szRep_ok3 hs
    have hB0 := Blk.new w #[.int .i64 r.lv, .int .i64 r.pl, .int .i64 r.sc, .slice A r.ins.length c, .slice A' r.hs.length c', .int .i64 r.tag] 25
    go_enter Tryd.func3, Tryd.ntmps3
    go_wp2_with fail
    refine (szReplay_any _ _ _ _ _ _ _ _ _ _ _ _ (by omega) (by omega) hn hn').mono ?_
    rintro e w1 ⟨rfl, hb1⟩
    have hB1 := hB0.later hb1
    have hd1 := below_after (below_alloc (Below.refl w.heap.size w) _) hb1
    clear hb1 hB0
    obtain ⟨x0, x1, x2, x3, x4, x5⟩ := hB1.c6
    go_wp2_with fail
    refine (toReplay_any _ _ _ _ r _ (h.below hd1) (h'.below hd1) (by omega) (by omega)).mono ?_
    rintro e w2 ⟨A2, c2, A2', c2', rfl, ho2, ho2', hb2⟩
    have hB2 := hB1.later hb2
    have hd2 := below_after hd1 hb2
    clear x0 x1 x2 x3 x4 x5 hB1 hd1 hb2
    go_wp2_with fail
    refine (specReplayEncode_any _ _ _ _ r _ (ho2.sl' encInp_len) (ho2'.sl' encInt_len) hn hn').mono ?_
    rw [HE.out]
    rintro e w3 ⟨rfl, hb3⟩
    have hB3 := hB2.later hb3
    have hd3 := below_after hd2 hb3
    clear hB2 hd2 hb3 ho2 ho2'
    obtain ⟨x0, x1, x2, x3, x4, x5⟩ := hB3.c6
    go_wp2_with fail
    refine (toReplay_any _ _ _ _ r _ (h.below hd3) (h'.below hd3) (by omega) (by omega)).mono ?_
    rintro e w4 ⟨A4, c4, A4', c4', rfl, ho4, ho4', hb4⟩
    have hB4 := hB3.later hb4
    have hd4 := below_after hd3 hb4
    clear x0 x1 x2 x3 x4 x5 hB3 hd3 hb4
    have hD4 := Blk.new w4 #[.int .i64 r.lv, .int .i64 r.pl, .int .i64 r.sc, .slice A4 r.ins.length c4, .slice A4' r.hs.length c4', .int .i64 r.tag] 30
    go_wp2_with fail
    refine (implReplayEncode_any _ _ _ _ r _ ((ho4.alloc _).sl' encInp_len) ((ho4'.alloc _).sl' encInt_len) hn hn' (HT.out.below (below_alloc hd4 _))).mono ?_
    rw [HE.out]
    rintro e w5 ⟨rfl, hb5⟩
    have hB5 := (hB4.alloc _).later hb5
    have hD5 := hD4.later hb5
    have hd5 := below_after (below_alloc hd4 _) hb5
    have ho5 := ((ho4.alloc _).later hb5).sl' encInp_len
    have ho5' := ((ho4'.alloc _).later hb5).sl' encInt_len
    clear hB4 hD4 hd4 ho4 ho4' hb5
    obtain ⟨x0, x1, x2, x3, x4, x5⟩ := hB5.c6
    obtain ⟨y0, y1, y2, y3, y4, y5⟩ := hD5.c6
    have l1 := hB5.1
    have l2 := hD5.1
    go_wp2_with fail
    go_region_held3 (fun w' => Below w5.heap.size w5 w' ∧ w'.cell? ⟨w.heap.size, 0, none⟩ = some (.int .i64 r.lv) ∧ w'.cell? ⟨w.heap.size, 1, none⟩ = some (.int .i64 r.pl) ∧ w'.cell? ⟨w.heap.size, 2, none⟩ = some (.int .i64 r.sc) ∧ w'.cell? ⟨w.heap.size, 3, none⟩ = some (.slice A r.ins.length c) ∧ w'.cell? ⟨w.heap.size, 4, none⟩ = some (.slice A' r.hs.length c') ∧ w'.cell? ⟨w.heap.size, 5, none⟩ = some (.int .i64 r.tag) ∧ w'.cell? ⟨w4.heap.size, 0, none⟩ = some (.int .i64 r.lv) ∧ w'.cell? ⟨w4.heap.size, 1, none⟩ = some (.int .i64 r.pl) ∧ w'.cell? ⟨w4.heap.size, 2, none⟩ = some (.int .i64 r.sc) ∧ w'.cell? ⟨w4.heap.size, 3, none⟩ = some (.slice A4 r.ins.length c4) ∧ w'.cell? ⟨w4.heap.size, 4, none⟩ = some (.slice A4' r.hs.length c4') ∧ w'.cell? ⟨w4.heap.size, 5, none⟩ = some (.int .i64 r.tag))
      (first | (with_reducible exact keep66 hB5 hD5 (below_drew (Below.refl _ _))) | (with_reducible exact keep66 hB5 hD5 (below_after (below_drew (Below.refl _ _)) hb6)) | (with_reducible exact keep66 hB5 hD5 (below_after (below_after (below_drew (Below.refl _ _)) hb6) hb7)))
      (first
        | (go_at_call 8; refine (toReplay_any _ _ _ _ r _ (h.below (hd5.trans (Below.mono (And.left (by assumption)) hd5.size))) (h'.below (hd5.trans (Below.mono (And.left (by assumption)) hd5.size))) (by omega) (by omega)).mono ?_; rintro e w6 ⟨A6, c6, A6', c6', rfl, ho6, ho6', hb6⟩)
        | (go_at_call 10; refine (eqReplay_same _ _ _ _ _ _ _ _ r _ (ho5.below (below_after (below_drew (Below.refl _ _)) hb6)) (ho5'.below (below_after (below_drew (Below.refl _ _)) hb6)) (ho6.sl' encInp_len) (ho6'.sl' encInt_len) (by omega) (by omega)).mono ?_; rintro e w7 ⟨rfl, hb7⟩))
    have hd7 := below_after (below_after (below_drew hd5) hb6) hb7
    go_wp2
    go_ret
    exact ⟨rfl, hd7⟩
end Go.Proofs.YtdpoicfciogfnaaDoor
