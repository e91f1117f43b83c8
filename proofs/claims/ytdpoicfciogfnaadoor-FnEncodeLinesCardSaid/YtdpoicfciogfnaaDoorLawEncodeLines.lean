/- The law FnEncodeLines: its walk. (Seat D) -/
import Derived.Test.YtdpoicfciogfnaaDoorDrI
import Derived.Test.YtdpoicfciogfnaaDoorEncD
import Derived.Test.YtdpoicfciogfnaaDoorEncI
import Derived.Laws.DeepStrings4
import Derived.Deep.RegionHeld3
namespace Go.Proofs.YtdpoicfciogfnaaDoor
open Go.ChangeShapes Go.WideShapes Go.ChangeAt Go.RowKit
set_option maxRecDepth 100000 in
theorem drawReplayEncode_any (A : Option Addr) (n c : Nat) (l : List Int) (w : World) (h : Sl w 1 encU8 A n l) (hl : ∀ x ∈ l, 0 ≤ x ∧ x < 256) (hn : n ≤ 9223372036854775807) (hnc : n ≤ c) (hc : c ≤ 9223372036854775807) :
    Calls Tryd.prog 11 #[.slice A n c] w (RetDr w) := by
  go_enter Tryd.func11, Tryd.ntmps11
  go_wp2_with fail
  refine (drawReplayValid_any A n c l _ (h.below (below_alloc (Below.refl _ _) _)) hl hn hnc hc).mono ?_
  rintro e w1 ⟨r3, A6, c6, A7, c7, rfl, hL3, hP3, hO3, hb1⟩
  have C3 : Bk w1 w.heap.size 30 #[.int .i64 0, .int .i64 0, .int .i64 0, .slice none 0 0, .slice none 0 0, .int .i64 0] := (Bk.new w _ _ rfl).later hb1
  have hd1 := below_after (below_alloc (Below.refl w.heap.size w) _) hb1
  have P3 := hP3.mono (B' := w.heap.size + 1) (by simp)
  have O3 := hO3.mono (B' := w.heap.size + 1) (by simp)
  have HL3 := Lib.hid hL3
  clear hb1 hP3 hO3 hL3
  have zC := C3.lt
  obtain ⟨⟨b0, b1, b2, b3, b4, b5⟩, bf⟩ := C3.c6
  go_wp2
  refine bodyPost_ret (v := .agg #[.int .i64 r3.lv, .int .i64 r3.pl, .int .i64 r3.sc, .slice A6 r3.ins.length c6, .slice A7 r3.hs.length c7, .int .i64 r3.tag]) (by simp [results, Tryd.results11, go_sem, *]) rfl ⟨r3, A6, c6, A7, c7, rfl, HL3.out, ?_, ?_, by (with_reducible repeat first | assumption | exact bl0 _ _ | refine blA ?_ _ | (refine blS ?_ ?_ _; (simp <;> omega)) | refine blD ?_ | refine blN ?_ _ | refine blF ?_ ‹_›)⟩
  · refine Own.mono (B := w.heap.size + 1) ?_ (by omega)
    (with_reducible repeat first | assumption | refine Own.fars ?_ ‹_› _ | refine Own.alloc ?_ _ | refine Own.drew ?_ | refine Own.drewN ?_ _ | refine Own.set (by first | omega | simp <;> omega) ?_ _ | refine Own.later ?_ ‹_› | refine Own.gk ?_ ‹_› (by omega))
  · refine Own.mono (B := w.heap.size + 1) ?_ (by omega)
    (with_reducible repeat first | assumption | refine Own.fars ?_ ‹_› _ | refine Own.alloc ?_ _ | refine Own.drew ?_ | refine Own.drewN ?_ _ | refine Own.set (by first | omega | simp <;> omega) ?_ _ | refine Own.later ?_ ‹_› | refine Own.gk ?_ ‹_› (by omega))
set_option maxRecDepth 100000 in
set_option maxHeartbeats 2000000 in
theorem lawEncodeLines (A : Option Addr) (n c : Nat) (l : List Int) (w : World) (h : Sl w 1 encU8 A n l) (hl : ∀ x ∈ l, 0 ≤ x ∧ x < 256) (hn : n ≤ 9223372036854775807) (hnc : n ≤ c) (hc : c ≤ 9223372036854775807) (ht : Tab w) :
    Calls Tryd.prog 4 #[.slice A n c] w fun e w' => e = .returned (.bool true) ∧ Below w.heap.size w w' := by
  have HT := Lib.hid ht
  clear ht
  by_cases h1 : 1048576 < (n : Int)
  · go_enter Tryd.func4, Tryd.ntmps4
    go_wp2
    go_ret
    exact ⟨rfl, Below.refl _ _⟩
  · go_enter Tryd.func4, Tryd.ntmps4
    go_wp2_with fail
    refine (drawReplayEncode_any A n c l _ h hl hn hnc hc).mono ?_
    rintro e w1 ⟨r, A1, c1, A2, c2, rfl, hL, hP1, hO1, hd1⟩
    have hni := hL.nin
    have hnh := hL.nhs
    have hEl := encR_len r
    have hEo := encR_ok r
    obtain ⟨E, hE⟩ : ∃ E, encR r = E := ⟨_, rfl⟩
    rw [hE] at hEl hEo
    have HE := Lib.hid hE
    clear h hl hL hE
    go_wp2_with fail
    refine (implReplayEncode_any _ _ _ _ r _ ((hP1.alloc _).sl' encInp_len) ((hO1.alloc _).sl' encInt_len) (by omega) (by omega) (HT.out.below (below_alloc hd1 _))).mono ?_
    rw [HE.out]
    rintro e w2 ⟨rfl, hb2⟩
    have B2 : Bk w2 w1.heap.size 30 #[.int .i64 r.lv, .int .i64 r.pl, .int .i64 r.sc, .slice A1 r.ins.length c1, .slice A2 r.hs.length c2, .int .i64 r.tag] := (Bk.new w1 _ _ rfl).later hb2
    have P2 := ((hP1.alloc (.cells #[.int .i64 r.lv, .int .i64 r.pl, .int .i64 r.sc, .slice A1 r.ins.length c1, .slice A2 r.hs.length c2, .int .i64 r.tag] 30)).later hb2).sl' encInp_len
    have O2 := ((hO1.alloc (.cells #[.int .i64 r.lv, .int .i64 r.pl, .int .i64 r.sc, .slice A1 r.ins.length c1, .slice A2 r.hs.length c2, .int .i64 r.tag] 30)).later hb2).sl' encInt_len
    have hd2 := below_after (below_alloc hd1 (.cells #[.int .i64 r.lv, .int .i64 r.pl, .int .i64 r.sc, .slice A1 r.ins.length c1, .slice A2 r.hs.length c2, .int .i64 r.tag] 30)) hb2
    clear hP1 hO1 hd1 hb2
    have zC := B2.lt
    obtain ⟨⟨b0, b1, b2, b3, b4, b5⟩, bf⟩ := B2.c6
    go_wp2_with fail
    refine (specReplayEncode_any _ _ _ _ r _ P2 O2 (by omega) (by omega)).mono ?_
    rw [HE.out]
    rintro e w3 ⟨rfl, hb3⟩
    have hd3 := below_after hd2 hb3
    clear P2 O2 hd2 hb3 B2 zC b0 b1 b2 b3 b4 b5 bf HE HT
    rcases hEo with rfl | hEo
    · have e1 : (st []).toList = [] := st_toList []
      have e2 : (ByteArray.mk #[]).toList = [] := st_toList []
      go_wp2
      go_ret
      exact ⟨rfl, hd3⟩
    · obtain ⟨hc4, ⟨F, hF⟩, ⟨G, hG⟩⟩ := hEo
      have e1 : (st E).toList = E := st_toList E
      have e2 : (ByteArray.mk #[]).toList = [] := st_toList []
      have e3 : (E == []) = false := by rw [hF]; rfl
      have e4 : (st E).size = E.length := st_size E
      have HF := Lib.hid hF
      have HG := Lib.hid hG
      have HC := Lib.hid hc4
      clear hF hG hc4
      go_wp2
      go_loopw [6, 7] (fun v i wr => ∃ k : Nat, k ≤ E.length ∧ i = .int .i64 k ∧ v = .int .i64 ((E.take k).count 10 : Nat) ∧ Below w.heap.size w wr) (fun _ i _ => E.length - (intOf i).toNat)
      case atStart => exact ⟨0, Nat.zero_le _, rfl, rfl, hd3⟩
      case round =>
        obtain ⟨k, hk, rfl, rfl, hb⟩ := hrel
        by_cases hlt : k < E.length
        · obtain ⟨x, hx⟩ : ∃ x, E[k]? = some x := ⟨_, List.getElem?_eq_getElem hlt⟩
          have q := fun W => st_at Tryd.prog 9 Tryd.underlying9 W hx
          have HX := Lib.hid (count_snoc hx)
          have hcl : (E.take k).count 10 ≤ 100000 := Nat.le_trans List.count_le_length (by rw [List.length_take]; omega)
          clear hx
          by_cases h10 : x = 10
          · subst h10
            go_wp2
            go_roundw
            case rel => exact ⟨k + 1, by omega, by go_num, by rw [HX.out]; go_num, by (with_reducible repeat first | assumption | exact bl0 _ _ | refine blA ?_ _ | (refine blS ?_ ?_ _; (simp <;> omega)) | refine blD ?_ | refine blN ?_ _ | refine blF ?_ ‹_›)⟩
            case measure => simp [intOf]; omega
          · have h11 : x.toNat ≠ 10 := fun e => h10 (UInt8.toNat.inj e)
            have h12 : (x.toNat : Int) ≠ 10 := by omega
            go_wp2
            go_roundw
            case rel => exact ⟨k + 1, by omega, by go_num, by rw [HX.out, if_neg h10]; rfl, by (with_reducible repeat first | assumption | exact bl0 _ _ | refine blA ?_ _ | (refine blS ?_ ?_ _; (simp <;> omega)) | refine blD ?_ | refine blN ?_ _ | refine blF ?_ ‹_›)⟩
            case measure => simp [intOf]; omega
        · obtain rfl : k = E.length := by omega
          rw [List.take_length]
          rw [HC.out]
          have hnl : ¬ ((E.length : Int) < (E.length : Int)) := by omega
          have e5 : ((st E).extract 0 7).toList = (ByteArray.mk #[114, 101, 112, 108, 97, 121, 32]).toList := by
            rw [st_cut, st_toList, HF.out, show ByteArray.mk #[114, 101, 112, 108, 97, 121, 32] = st [114, 101, 112, 108, 97, 121, 32] from rfl, st_toList]; rfl
          have e6 : ∀ h, (st E)[E.length - 1]'h = 10 := fun h => by
            have := HG.out
            subst this
            simp [st, ByteArray.getElem_eq_getElem_data]
          have e7 : 7 ≤ E.length := by rw [HF.out]; simp
          have e8 : ((E.length : Int) - 1).toNat = E.length - 1 := by omega
          go_wp2
          go_ret
          exact ⟨rfl, hb⟩
end Go.Proofs.YtdpoicfciogfnaaDoor
