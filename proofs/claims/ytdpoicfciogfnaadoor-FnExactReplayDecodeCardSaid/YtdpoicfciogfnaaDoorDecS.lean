/- Texts of replays read: the reference's ReplayDecode. (Seat D) -/
import Derived.Test.YtdpoicfciogfnaaDoorDecR
namespace Go.Proofs.YtdpoicfciogfnaaDoor
open Go.ChangeShapes Go.WideShapes Go.ChangeAt Go.RowKit
def decL : List (List UInt8) → Option Rep
  | [l0, l1, l2, l3, l4] => if l4 = [] then readS (lineP wReplay l0) (lineP wInputs l1) (lineP wHashes l2) (lineP wTag l3) else none
  | _ => none
/-- What the reference reads out of a text. -/
def decS (E : List UInt8) : Option Rep := decL (cutL 10 E)
theorem decL_len {ws : List (List UInt8)} (h : ws.length ≠ 5) : decL ws = none := by
  unfold decL
  split
  · exact absurd rfl h
  · rfl
theorem list5 {α : Type} {L : List α} (h : L.length = 5) : ∃ a b c d e, L = [a, b, c, d, e] := by
  match L, h with
  | [a, b, c, d, e], _ => exact ⟨a, b, c, d, e, rfl⟩
set_option maxRecDepth 100000 in
set_option maxHeartbeats 2000000 in
theorem specReplayDecode_any (E : List UInt8) (w : World) (hE : E.length ≤ 1048576) :
    Calls Tryd.prog 12 #[.string (st E)] w (RetRepB ((decS E).getD zeroRep) (decS E).isSome w) := by
  have hcm := fun p => cutL_mem (p := p) (c := 10) hE
  obtain ⟨o, ho⟩ : ∃ o, decS E = o := ⟨_, rfl⟩
  have ho2 : decL (cutL 10 E) = o := ho
  rw [ho]
  obtain ⟨ws, hws⟩ : ∃ ws, cutL 10 E = ws := ⟨_, rfl⟩
  rw [hws] at ho2 hcm
  have HW := Lib.hid hws
  have HO := Lib.hid ho2
  have HM := Lib.hid hcm
  clear ho ho2 hws hcm
  by_cases h5 : ws.length = 5
  · obtain ⟨l0, l1, l2, l3, l4, rfl⟩ := list5 h5
    by_cases h4 : l4 = []
    · subst h4
      have HO2 := HO.out
      rw [decL, if_pos rfl] at HO2
      have HO3 := Lib.hid HO2
      clear HO HO2 h5
      go_enter Tryd.func12, Tryd.ntmps12
      go_wp2_with fail
      refine (l23Cut_any E 10 _ hE).mono ?_
      rw [HW.out]
      rintro e w1 ⟨A, cp, rfl, O1, hb1⟩
      have R1 : Bk w1 w.heap.size 30 #[.int .i64 0, .int .i64 0, .int .i64 0, .slice none 0 0, .slice none 0 0, .int .i64 0] := (Bk.new w _ _ rfl).later hb1
      have B1 : Below w.heap.size w w1 := below_after (by (with_reducible repeat first | assumption | exact bl0 _ _ | refine blA ?_ _ | (refine blS ?_ ?_ _; (simp <;> omega)) | refine blD ?_ | refine blN ?_ _ | refine blF ?_ ‹_›)) hb1
      have S1 := O1.sl' encStr_len
      obtain ⟨b, off, y, rfl, hbl, hy, hc⟩ := S1.at_ (k := 4) (by simp)
      obtain rfl : y = [] := by simpa using hy.symm
      have q0 : w1.cell? ⟨b, off + 4, none⟩ = some (.string (st [])) := by simpa using hc 0 _ rfl
      have f1 : (st []).toList = [] := st_toList []
      have f2 : (ByteArray.mk #[]).toList = [] := st_toList []
      have z1 := R1.lt
      clear hb1 O1 hy hc
      go_wp2_with fail
      refine (l23Read_any _ _ l0 l1 l2 l3 [] _ S1 (HM.out _ (by simp)) (HM.out _ (by simp)) (HM.out _ (by simp)) (HM.out _ (by simp))).mono ?_
      rw [HO3.out]
      rintro e w2 ⟨r, bb, ⟨A2, c2, A3, c3, rfl, OI, OH, hb2, hsep⟩, hob, hrl, hrh⟩
      have R2 := R1.later hb2
      have B2 := below_after B1 hb2
      have z2 := R2.lt
      have OI2 := OI.mono (B' := w.heap.size + 1) z1
      have OH2 := OH.mono (B' := w.heap.size + 1) z1
      clear R1 B1 S1 q0 hb2 OI OH hbl z1
      obtain ⟨⟨x0, x1, x2, x3, x4, x5⟩, xf⟩ := R2.c6
      cases bb
      · obtain rfl : o = none := hob
        go_wp2
        exact bodyPost_ret (v := .tuple #[.agg #[.int .i64 0, .int .i64 0, .int .i64 0, .slice none 0 0, .slice none 0 0, .int .i64 0], .bool false]) (by simp [results, Tryd.results12, go_sem, *]) rfl ⟨none, 0, none, 0, rfl, Own.none_, Own.none_, by (with_reducible repeat first | assumption | exact bl0 _ _ | refine blA ?_ _ | (refine blS ?_ ?_ _; (simp <;> omega)) | refine blD ?_ | refine blN ?_ _ | refine blF ?_ ‹_›), fun g g' e => by cases e⟩
      · obtain rfl : o = some r := hob
        go_wp2
        exact bodyPost_ret (v := .tuple #[.agg #[.int .i64 r.lv, .int .i64 r.pl, .int .i64 r.sc, .slice A2 r.ins.length c2, .slice A3 r.hs.length c3, .int .i64 r.tag], .bool true]) (by simp [results, Tryd.results12, go_sem, *]) rfl ⟨A2, c2, A3, c3, rfl, Own.mono (B := w.heap.size + 1) (v := .slice A2 r.ins.length c2) (l := r.ins) (by (with_reducible repeat first | assumption | refine Own.fars ?_ ‹_› _ | refine Own.alloc ?_ _ | refine Own.drew ?_ | refine Own.drewN ?_ _ | refine Own.set (by first | omega | simp <;> omega) ?_ _ | refine Own.later ?_ ‹_› | refine Own.gk ?_ ‹_› (by omega))) (by omega), Own.mono (B := w.heap.size + 1) (v := .slice A3 r.hs.length c3) (l := r.hs) (by (with_reducible repeat first | assumption | refine Own.fars ?_ ‹_› _ | refine Own.alloc ?_ _ | refine Own.drew ?_ | refine Own.drewN ?_ _ | refine Own.set (by first | omega | simp <;> omega) ?_ _ | refine Own.later ?_ ‹_› | refine Own.gk ?_ ‹_› (by omega))) (by omega), by (with_reducible repeat first | assumption | exact bl0 _ _ | refine blA ?_ _ | (refine blS ?_ ?_ _; (simp <;> omega)) | refine blD ?_ | refine blN ?_ _ | refine blF ?_ ‹_›), hsep⟩
    · have HO2 := HO.out
      rw [decL, if_neg h4] at HO2
      subst HO2
      have f3 : (l4 == []) = false := by simpa using h4
      clear HO h4 h5
      go_enter Tryd.func12, Tryd.ntmps12
      go_wp2_with fail
      refine (l23Cut_any E 10 _ hE).mono ?_
      rw [HW.out]
      rintro e w1 ⟨A, cp, rfl, O1, hb1⟩
      have R1 : Bk w1 w.heap.size 30 #[.int .i64 0, .int .i64 0, .int .i64 0, .slice none 0 0, .slice none 0 0, .int .i64 0] := (Bk.new w _ _ rfl).later hb1
      have B1 : Below w.heap.size w w1 := below_after (by (with_reducible repeat first | assumption | exact bl0 _ _ | refine blA ?_ _ | (refine blS ?_ ?_ _; (simp <;> omega)) | refine blD ?_ | refine blN ?_ _ | refine blF ?_ ‹_›)) hb1
      have S1 := O1.sl' encStr_len
      obtain ⟨b, off, y, rfl, hbl, hy, hc⟩ := S1.at_ (k := 4) (by simp)
      obtain rfl : y = l4 := by simpa using hy.symm
      have q0 : w1.cell? ⟨b, off + 4, none⟩ = some (.string (st y)) := by simpa using hc 0 _ rfl
      have f1 : (st y).toList = y := st_toList y
      have f2 : (ByteArray.mk #[]).toList = [] := st_toList []
      have z1 := R1.lt
      clear hb1 O1 hy hc S1
      obtain ⟨⟨x0, x1, x2, x3, x4, x5⟩, xf⟩ := R1.c6
      go_wp2
      exact bodyPost_ret (v := .tuple #[.agg #[.int .i64 0, .int .i64 0, .int .i64 0, .slice none 0 0, .slice none 0 0, .int .i64 0], .bool false]) (by simp [results, Tryd.results12, go_sem, *]) rfl ⟨none, 0, none, 0, rfl, Own.none_, Own.none_, by (with_reducible repeat first | assumption | exact bl0 _ _ | refine blA ?_ _ | (refine blS ?_ ?_ _; (simp <;> omega)) | refine blD ?_ | refine blN ?_ _ | refine blF ?_ ‹_›), fun g g' e => by cases e⟩
  · have HO2 := HO.out
    rw [decL_len h5] at HO2
    subst HO2
    have h6 : (ws.length : Int) ≠ 5 := by omega
    go_enter Tryd.func12, Tryd.ntmps12
    go_wp2_with fail
    refine (l23Cut_any E 10 _ hE).mono ?_
    rw [HW.out]
    rintro e w1 ⟨A, cp, rfl, O1, hb1⟩
    have R1 : Bk w1 w.heap.size 30 #[.int .i64 0, .int .i64 0, .int .i64 0, .slice none 0 0, .slice none 0 0, .int .i64 0] := (Bk.new w _ _ rfl).later hb1
    have B1 : Below w.heap.size w w1 := below_after (by (with_reducible repeat first | assumption | exact bl0 _ _ | refine blA ?_ _ | (refine blS ?_ ?_ _; (simp <;> omega)) | refine blD ?_ | refine blN ?_ _ | refine blF ?_ ‹_›)) hb1
    have z1 := R1.lt
    clear hb1 O1
    obtain ⟨⟨x0, x1, x2, x3, x4, x5⟩, xf⟩ := R1.c6
    go_wp2
    exact bodyPost_ret (v := .tuple #[.agg #[.int .i64 0, .int .i64 0, .int .i64 0, .slice none 0 0, .slice none 0 0, .int .i64 0], .bool false]) (by simp [results, Tryd.results12, go_sem, *]) rfl ⟨none, 0, none, 0, rfl, Own.none_, Own.none_, by (with_reducible repeat first | assumption | exact bl0 _ _ | refine blA ?_ _ | (refine blS ?_ ?_ _; (simp <;> omega)) | refine blD ?_ | refine blN ?_ _ | refine blF ?_ ‹_›), fun g g' e => by cases e⟩
end Go.Proofs.YtdpoicfciogfnaaDoor
