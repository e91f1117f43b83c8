/- The law FnExactReplayList: its walk. -/
import Derived.Test.YtkendoffknjpiaaRepL
import Derived.Deep.RegionHeld3
import Derived.Deep.DeepMust
namespace Go.Proofs.Ytkendoffknjpiaa
open Go.ChangeShapes Go.WideShapes Go.ChangeAt Go.RowKit
theorem szRep_ok {n n' : Nat} (h : ¬ szRep n n' 1048576 < 0) : n ≤ 1048576 ∧ n' ≤ 1048576 := by
  unfold szRep szL at h; split at h <;> omega
theorem Own.sl' {α : Type} {w : World} {B : Nat} {T : TypeId} {sz : Nat} {enc : α → List Value} {A : Option Addr} {c : Nat} {l : List α} (he : ∀ x, (enc x).length = sz) (h : Own w B T sz enc (.slice A l.length c) l) : Sl w sz enc A l.length l := h.sl he
set_option maxRecDepth 100000 in
theorem markReplay_any (A A' : Option Addr) (c c' : Nat) (r : Rep) (B : Nat) (k : Int) (w : World) (h : Own w B 60 3 encInp (.slice A r.ins.length c) r.ins) (h' : Own w B 3 1 encInt (.slice A' r.hs.length c') r.hs)
    (hsep : ∀ g g', (Value.slice A r.ins.length c).ownBlock = some g → (Value.slice A' r.hs.length c').ownBlock = some g' → g < g') (hn : r.ins.length ≤ 1048576) (hn' : r.hs.length ≤ 1048576) (hk0 : 0 ≤ k) (hk1 : k ≤ 1000000000) :
    Calls Try.prog 43 #[.agg #[.int .i64 r.lv, .int .i64 r.pl, .int .i64 r.sc, .slice A r.ins.length c, .slice A' r.hs.length c', .int .i64 r.tag], .int .i64 k] w fun e w' =>
      e = .returned (.int .i64 (k + (3 * r.ins.length : Nat) + (1 * r.hs.length : Nat))) ∧ ∃ w1, w.grownBy w1 (Value.slice A r.ins.length c).ownBlock ∧ w1.grownBy w' (Value.slice A' r.hs.length c').ownBlock := by
  have hB0 := Blk.new w #[.int .i64 r.lv, .int .i64 r.pl, .int .i64 r.sc, .slice A r.ins.length c, .slice A' r.hs.length c', .int .i64 r.tag] 35
  go_enter Try.func43, Try.ntmps43
  go_wp2_with fail
  refine (markInputS_any _ _ _ _ _ _ _ (h.alloc _) (by omega) hk0 (by omega)).mono ?_
  rintro e w1 ⟨rfl, ho1, hg1⟩
  have hB1 := hB0.grown hg1 (by intro e; have := (h.lt _ e).2; omega)
  obtain ⟨x0, x1, x2, x3, x4, x5⟩ := hB1.c6
  have h2 := (h'.alloc (.cells #[.int .i64 r.lv, .int .i64 r.pl, .int .i64 r.sc, .slice A r.ins.length c, .slice A' r.hs.length c', .int .i64 r.tag] 35)).kept hg1 (by
    cases e1 : (Value.slice A' r.hs.length c').ownBlock with
    | none => exact .inl rfl
    | some g' => exact .inr (fun e2 => by have := hsep g' g' e2.symm e1; omega))
  go_wp2_with fail
  refine (markIntS_any _ _ _ _ _ _ _ h2 (by omega) (by omega) (by omega)).mono ?_
  rintro e w2 ⟨rfl, ho2, hg2⟩
  go_wp2
  go_ret
  exact ⟨ret_int (by omega), w1, grownBy_trans (grown_of_below (below_alloc (Below.refl _ _) _)) hg1, hg2⟩
theorem Own.keptN {α : Type} {w w' : World} {B : Nat} {T : TypeId} {sz : Nat} {enc : α → List Value} {v : Value} {l : List α} {row : Option Nat} (h : Own w B T sz enc v l) (hg : w.grownBy w' row) (hne : ∀ g, v.ownBlock = some g → row ≠ some g) : Own w' B T sz enc v l :=
  h.kept hg (by
    cases e : v.ownBlock with
    | none => exact .inl rfl
    | some g => exact .inr (fun e2 => hne g e e2.symm))
theorem repL_len (r : Rep) : (repL r).length ≤ 76 := by
  unfold repL
  cases h : replayOk r with
  | false => simp
  | true =>
    obtain ⟨_, h1, h2⟩ := replayOk_bd h
    simp [repList, repHead]
    omega
set_option maxRecDepth 100000 in
set_option maxHeartbeats 1000000 in
theorem lawReplayList (A A' : Option Addr) (c c' : Nat) (r : Rep) (w : World) (h : Sl w 3 encInp A r.ins.length r.ins) (h' : Sl w 1 encInt A' r.hs.length r.hs) (hn : r.ins.length ≤ 9223372036854775807) (hn' : r.hs.length ≤ 9223372036854775807) :
    Calls Try.prog 8 #[.agg #[.int .i64 r.lv, .int .i64 r.pl, .int .i64 r.sc, .slice A r.ins.length c, .slice A' r.hs.length c', .int .i64 r.tag]] w fun e w' => e = .returned (.bool true) ∧ Below w.heap.size w w' := by
  by_cases hs : szRep r.ins.length r.hs.length 1048576 < 0
  · go_enter Try.func8, Try.ntmps8
    go_wp2_with (go_at_call 21; refine (szReplay_any _ _ _ _ _ _ _ _ _ _ _ _ (by omega) (by omega) hn hn').mono ?_; rintro e w1 ⟨rfl, hb1⟩)
    go_ret
    exact ⟨rfl, by (repeat (first | (with_reducible refine below_alloc ?_ _) | (with_reducible refine below_setCell ?_ ?_ _; (simp <;> omega)) | (with_reducible refine below_drew ?_) | (with_reducible refine below_drewN ?_ _) | (with_reducible refine below_after ?_ (by assumption)) | (with_reducible exact Below.refl _ _)))⟩
  · obtain ⟨hm, hm'⟩ := szRep_ok hs
    have hL := repL_len r
    have hB0 := Blk.new w #[.int .i64 r.lv, .int .i64 r.pl, .int .i64 r.sc, .slice A r.ins.length c, .slice A' r.hs.length c', .int .i64 r.tag] 30
    go_enter Try.func8, Try.ntmps8
    go_wp2_with fail
    refine (szReplay_any _ _ _ _ _ _ _ _ _ _ _ _ (by omega) (by omega) hn hn').mono ?_
    rintro e w1 ⟨rfl, hb1⟩
    have hB1 := hB0.later hb1
    have hd1 := below_after (below_alloc (Below.refl w.heap.size w) _) hb1
    clear hb1 hB0
    obtain ⟨x0, x1, x2, x3, x4, x5⟩ := hB1.c6
    go_wp2_with fail
    refine (toReplay_any _ _ _ _ r _ (h.below hd1) (h'.below hd1) (by omega) (by omega)).mono ?_
    rintro e w2 ⟨A2, c2, A2', c2', rfl, ho2, ho2', hb2⟩
    have hB2 := hB1.later hb2
    have hd2 := below_after hd1 hb2
    clear x0 x1 x2 x3 x4 x5 hB1 hd1 hb2
    go_wp2_with fail
    refine (specReplayList_any _ _ _ _ r _ (ho2.sl' encInp_len) (ho2'.sl' encInt_len) hn hn' ho2'.none_cap).mono ?_
    rintro e w3 ⟨AS, cS, rfl, hcS, hS3, hb3⟩
    have hB3 := hB2.later hb3
    have hd3 := below_after hd2 hb3
    have hSr := fun g e => (hS3.lt g e).2
    have hp3 := hB3.1
    clear hB2 hd2 hb3 ho2 ho2'
    obtain ⟨x0, x1, x2, x3, x4, x5⟩ := hB3.c6
    go_wp2_with fail
    refine (toReplay_sep _ _ _ _ r _ (h.below hd3) (h'.below hd3) (by omega) (by omega)).mono ?_
    rintro e w4 ⟨A4, c4, A4', c4', rfl, ho4, ho4', hb4, hsep⟩
    have hB4 := hB3.later hb4
    have hS4 := hS3.later hb4
    have hd4 := below_after hd3 hb4
    have hq4 := hb4.size
    have hr1 := ho4.lt
    have hr2 := ho4'.lt
    clear x0 x1 x2 x3 x4 x5 hB3 hd3 hb4 hS3
    have hD4 := Blk.new w4 #[.int .i64 r.lv, .int .i64 r.pl, .int .i64 r.sc, .slice A4 r.ins.length c4, .slice A4' r.hs.length c4', .int .i64 r.tag] 35
    go_wp2_with fail
    refine (implReplayList_any _ _ _ _ r _ ((ho4.alloc _).sl' encInp_len) ((ho4'.alloc _).sl' encInt_len) hn hn' ho4'.none_cap).mono ?_
    rintro e w5 ⟨AG, cG, rfl, hcG, hG5, hb5⟩
    have hB5 := (hB4.alloc _).later hb5
    have hD5 := hD4.later hb5
    have hS5 := (hS4.alloc _).later hb5
    have hd5 := below_after (below_alloc hd4 _) hb5
    have ho5 := (ho4.alloc _).later hb5
    have ho5' := (ho4'.alloc _).later hb5
    have hGr : ∀ g, (Value.slice AG (repL r).length cG).ownBlock = some g → w4.heap.size < g := fun g e => by have := (hG5.lt g e).1; simp at this; omega
    have hG5 := hG5.mono (B' := 0) (Nat.zero_le _)
    clear hB4 hD4 hd4 ho4 ho4' hb5 hS4
    go_wp2_with fail
    refine (eqIntS_same _ _ _ _ _ _ _ _ (hG5.sl' encInt_len) (hS5.sl' encInt_len) (by omega) (by omega)).mono ?_
    rintro e w6 ⟨rfl, hb6⟩
    have hB6 := hB5.later hb6
    have hD6 := hD5.later hb6
    have hS6 := hS5.later hb6
    have hG6 := hG5.later hb6
    have hd6 := below_after hd5 hb6
    have ho6 := ho5.later hb6
    have ho6' := ho5'.later hb6
    clear hB5 hD5 hS5 hG5 hd5 ho5 ho5' hb6
    obtain ⟨x0, x1, x2, x3, x4, x5⟩ := hB6.c6
    obtain ⟨y0, y1, y2, y3, y4, y5⟩ := hD6.c6
    have l1 := hB6.1
    have l2 := hD6.1
    go_wp2_with fail
    go_region_held3 (fun w' => Below w6.heap.size w6 w' ∧ w'.cell? ⟨w.heap.size, 0, none⟩ = some (.int .i64 r.lv) ∧ w'.cell? ⟨w.heap.size, 1, none⟩ = some (.int .i64 r.pl) ∧ w'.cell? ⟨w.heap.size, 2, none⟩ = some (.int .i64 r.sc) ∧ w'.cell? ⟨w.heap.size, 3, none⟩ = some (.slice A r.ins.length c) ∧ w'.cell? ⟨w.heap.size, 4, none⟩ = some (.slice A' r.hs.length c') ∧ w'.cell? ⟨w.heap.size, 5, none⟩ = some (.int .i64 r.tag) ∧ w'.cell? ⟨w4.heap.size, 0, none⟩ = some (.int .i64 r.lv) ∧ w'.cell? ⟨w4.heap.size, 1, none⟩ = some (.int .i64 r.pl) ∧ w'.cell? ⟨w4.heap.size, 2, none⟩ = some (.int .i64 r.sc) ∧ w'.cell? ⟨w4.heap.size, 3, none⟩ = some (.slice A4 r.ins.length c4) ∧ w'.cell? ⟨w4.heap.size, 4, none⟩ = some (.slice A4' r.hs.length c4') ∧ w'.cell? ⟨w4.heap.size, 5, none⟩ = some (.int .i64 r.tag))
      (first | (with_reducible exact keep66 hB6 hD6 (below_drew (Below.refl _ _))) | (with_reducible exact keep66 hB6 hD6 (below_after (below_drew (Below.refl _ _)) hb7)) | (with_reducible exact keep66 hB6 hD6 (below_after (below_after (below_drew (Below.refl _ _)) hb7) hb8)))
      (first
        | (go_at_call 23; refine (toReplay_any _ _ _ _ r _ (h.below (hd6.trans (Below.mono (And.left (by assumption)) hd6.size))) (h'.below (hd6.trans (Below.mono (And.left (by assumption)) hd6.size))) (by omega) (by omega)).mono ?_; rintro e w7 ⟨A7, c7, A7', c7', rfl, ho7, ho7', hb7⟩)
        | (go_at_call 25; refine (eqReplay_same _ _ _ _ _ _ _ _ r _ ((ho6.sl' encInp_len).below (below_after (below_drew (Below.refl _ _)) hb7)) ((ho6'.sl' encInt_len).below (below_after (below_drew (Below.refl _ _)) hb7)) (ho7.sl' encInp_len) (ho7'.sl' encInt_len) (by omega) (by omega)).mono ?_; rintro e w8 ⟨rfl, hb8⟩))
    have hb9 := below_after (below_after (below_drew (Below.refl w6.heap.size w6)) hb7) hb8
    have hd8 := below_after hd6 hb9
    have hB8 := hB6.later hb9
    have hD8 := hD6.later hb9
    have hS8 := hS6.later hb9
    have hG8 := hG6.later hb9
    have ho8 := ho6.later hb9
    have ho8' := ho6'.later hb9
    clear x0 x1 x2 x3 x4 x5 y0 y1 y2 y3 y4 y5 hB6 hD6 hS6 hG6 hd6 ho6 ho6' hb7 hb8 hb9 ho7 ho7'
    obtain ⟨y0, y1, y2, y3, y4, y5⟩ := hD8.c6
    go_wp2_with fail
    refine (markReplay_any _ _ _ _ r _ _ _ ho8 ho8' hsep (by omega) (by omega) (by omega) (by omega)).mono ?_
    rintro e w10 ⟨rfl, v9, hg9, hg10⟩
    have q1 : ∀ g, (Value.slice A4 r.ins.length c4).ownBlock = some g → w.heap.size < g ∧ w3.heap.size ≤ g ∧ g < w4.heap.size := fun g e => by have := hr1 g e; omega
    have q2 : ∀ g, (Value.slice A4' r.hs.length c4').ownBlock = some g → w.heap.size < g ∧ w3.heap.size ≤ g ∧ g < w4.heap.size := fun g e => by have := hr2 g e; omega
    have hB10 := (hB8.grown hg9 (by intro e; have := q1 _ e; omega)).grown hg10 (by intro e; have := q2 _ e; omega)
    have hS10 := (hS8.keptN hg9 (by intro g e e1; have := q1 _ e1; have := hSr _ e; omega)).keptN hg10 (by intro g e e1; have := q2 _ e1; have := hSr _ e; omega)
    have hG10 := (hG8.keptN hg9 (by intro g e e1; have := q1 _ e1; have := hGr _ e; omega)).keptN hg10 (by intro g e e1; have := q2 _ e1; have := hGr _ e; omega)
    have hd10 := (hd8.grown hg9 hd8.size (by intro g e; have := q1 _ e; omega)).grown hg10 (Nat.le_trans hd8.size hg9.size) (by intro g e; have := q2 _ e; omega)
    clear y0 y1 y2 y3 y4 y5 hB8 hD8 hS8 hG8 ho8 ho8' hd8 hg9 hg10
    go_wp2_with fail
    refine (eqIntS_same _ _ _ _ _ _ _ _ (hG10.sl' encInt_len) (hS10.sl' encInt_len) (by omega) (by omega)).mono ?_
    rintro e w11 ⟨rfl, hb11⟩
    have hB11 := hB10.later hb11
    have hS11 := hS10.later hb11
    have hG11 := hG10.later hb11
    have hd11 := below_after hd10 hb11
    clear hB10 hS10 hG10 hd10 hb11
    go_wp2_with fail
    refine (markIntS_any _ _ _ _ _ _ _ hG11 (by omega) (by omega) (by omega)).mono ?_
    rintro e w12 ⟨rfl, hG12, hg12⟩
    have hB12 := hB11.grown hg12 (by intro e; have := hGr _ e; omega)
    have hS12 := hS11.keptN hg12 (by intro g e e1; have := hGr _ e1; have := hSr _ e; omega)
    have hd12 := hd11.grown hg12 hd11.size (by intro g e; have := hGr _ e; omega)
    have hG12' : Sl w12 1 encInt AG (repL r).length (marks mkInt 1 1 (repL r).length) := hG12.sl encInt_len
    clear hB11 hS11 hG11 hd11 hg12 hG12
    go_wp2_with fail
    refine (heldIntS_any _ _ _ _ _ hG12' (by omega) (by omega) (by omega)).mono ?_
    rintro e w12 ⟨rfl, rfl⟩
    obtain ⟨x0, x1, x2, x3, x4, x5⟩ := hB12.c6
    go_wp2_with fail
    refine (toReplay_any _ _ _ _ r _ (h.below hd12) (h'.below hd12) (by omega) (by omega)).mono ?_
    rintro e w13 ⟨A13, c13, A13', c13', rfl, ho13, ho13', hb13⟩
    have hd13 := below_after hd12 hb13
    have hS13 := hS12.later hb13
    have hG13 := hG12'.below hb13
    clear x0 x1 x2 x3 x4 x5 hB12 hd12 hS12 hG12'
    go_wp2_with fail
    refine (implReplayList_any _ _ _ _ r _ (ho13.sl' encInp_len) (ho13'.sl' encInt_len) hn hn' ho13'.none_cap).mono ?_
    rintro e w14 ⟨AG2, cG2, rfl, hcG2, hK14, hb14⟩
    have hd14 := below_after hd13 hb14
    have hS14 := hS13.later hb14
    have hG14 := hG13.below hb14
    clear hd13 hS13 hG13 ho13 ho13' hb13 hb14
    go_wp2_with fail
    refine (eqIntS_same _ _ _ _ _ _ _ _ (hK14.sl' encInt_len) (hS14.sl' encInt_len) (by omega) (by omega)).mono ?_
    rintro e w15 ⟨rfl, hb15⟩
    have hd15 := below_after hd14 hb15
    have hG15 := hG14.below hb15
    clear hd14 hG14 hS14 hK14 hb15
    go_wp2_with fail
    refine (heldIntS_any _ _ _ _ _ hG15 (by omega) (by omega) (by omega)).mono ?_
    rintro e w15 ⟨rfl, rfl⟩
    go_wp2
    go_ret
    exact ⟨rfl, hd15⟩
end Go.Proofs.Ytkendoffknjpiaa
