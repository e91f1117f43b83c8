/- ReplayParts: the reference's and the program's. -/
import Derived.Test.YtkendoffknjpiaaPrtsI
namespace Go.Proofs.Ytkendoffknjpiaa
open Go.ChangeShapes Go.WideShapes Go.ChangeAt Go.RowKit
def partsL (l : List Inp) : List Prt := if inputsOkB l then partsOf l else []
set_option maxRecDepth 100000 in
theorem specReplayParts_any (A : Option Addr) (c : Nat) (l : List Inp) (w : World) (h : Sl w 3 encInp A l.length l) (hn : l.length ≤ 9223372036854775807) :
    Calls Try.prog 36 #[.slice A l.length c] w (RetOwn 63 2 encPrt (partsL l) w) := by
  go_enter Try.func36, Try.ntmps36
  go_wp2_with fail
  refine (l23Inputs_any _ _ _ l _ h hn).mono ?_
  rintro e w1 ⟨rfl, hb1⟩
  cases hok : inputsOkB l with
  | false =>
    have hrl : partsL l = [] := by unfold partsL; rw [hok]; rfl
    go_wp2
    rw [hrl]
    have hs := hb1.size
    exact bodyPost_ret (v := .slice (some ⟨w1.heap.size, 0, none⟩) 0 0) (by simp [results, Try.results36, go_sem]) rfl ⟨some ⟨w1.heap.size, 0, none⟩, 0, rfl, Nat.le_refl _, Own.nil_lit2 w1 _ _ hs, below_alloc hb1 _⟩
  | true =>
    have hrl : partsL l = partsOf l := by unfold partsL; rw [hok]; rfl
    go_wp2_with fail
    refine (l23Parts_any _ _ l _ hok (h.below hb1)).mono ?_
    rintro e w2 ⟨A2, c2, rfl, hc2, ho2, hb2⟩
    go_wp2
    rw [hrl]
    exact bodyPost_ret (v := .slice A2 (partsOf l).length c2) (by simp [results, Try.results36, go_sem]) rfl ⟨A2, c2, rfl, hc2, ho2.mono hb1.size, below_after hb1 hb2⟩
theorem Lk.bump {w : World} {B b u : Nat} {p : Prt} {ps : List Prt} {v' : Value} (m : Int) (h1 : B ≤ b) (h2 : b < u) (hBk : Blk w b [.int .i64 p.c, .int .i64 p.m, v']) (hf : w.frozen? ⟨b, 1, none⟩ = false) (h4 : Lk w B v' ps b) :
    Lk (w.setCell ⟨b, 1, none⟩ (.int .i64 m)) B (.pointer (some ⟨b, 0, none⟩)) (⟨p.c, m⟩ :: ps) u := by
  obtain ⟨r0, r1, r2⟩ := hBk.c3
  have hbb := below_setCell (p := ⟨b, 1, none⟩) (Nat.le_refl b) (Below.refl b w) (.int .i64 m)
  refine ⟨b, v', rfl, h1, h2, ⟨Nat.lt_of_lt_of_le hBk.1 hbb.size, fun j v hv => ?_⟩, by simpa using hf, h4.below hbb (Nat.le_refl _)⟩
  match j, hv with
  | 0, hv => exact (World.cell?_setCell_other w ⟨b, 1, none⟩ _ _ (by simp)).trans (hBk.2 0 v hv)
  | 1, hv => exact (World.cell?_setCell_same w _ _ r1).trans hv
  | 2, hv => exact (World.cell?_setCell_other w ⟨b, 1, none⟩ _ _ (by simp)).trans (hBk.2 2 v hv)
set_option maxRecDepth 100000 in
set_option maxHeartbeats 1000000 in
theorem implReplayParts_any (A : Option Addr) (c : Nat) (l : List Inp) (w : World) (h : Sl w 3 encInp A l.length l) (hln : l.length ≤ 9223372036854775807) :
    Calls Try.prog 38 #[.slice A l.length c] w (RetOwn 63 2 encPrt (partsL l) w) := by
  go_enter Try.func38, Try.ntmps38
  go_wp2_with fail
  refine (inputsOk_any _ _ _ l _ h hln).mono ?_
  rintro e w1 ⟨rfl, hb1⟩
  cases hok : inputsOkB l with
  | false =>
    have hrl : partsL l = [] := by unfold partsL; rw [hok]; rfl
    go_wp2
    rw [hrl]
    exact bodyPost_ret (v := .slice none 0 0) (by simp [results, Try.results38, go_sem]) rfl ⟨none, 0, rfl, Nat.le_refl _, Own.none_, hb1⟩
  | true =>
    have hrl : partsL l = partsOf l := by unfold partsL; rw [hok]; rfl
    obtain ⟨hv, hn⟩ := inputsOkB_iff.1 hok
    go_wp2
    go_loopw [3, 12] (fun v i wr => ∃ k : Nat, k ≤ l.length ∧ i = .int .i64 k ∧ Lk wr w.heap.size v (rparts (l.take k)) wr.heap.size ∧ Below w.heap.size w wr) (fun _ i _ => l.length - (intOf i).toNat)
    case atStart => exact ⟨0, Nat.zero_le _, rfl, rfl, hb1⟩
    case round =>
      obtain ⟨k, hk, rfl, hL, hb⟩ := hrel
      clear hb1
      obtain ⟨hR1, hR2⟩ := rparts_bd l k
      have hsz := hb.size
      by_cases hlt : k < l.length
      · obtain ⟨b0, off, x, rfl, hbl, hx, hc⟩ := (h.below hb).at_ hlt
        have q0 : wr.cell? ⟨b0, off + k * 3, none⟩ = some (.int .i64 x.s) := hc 0 _ rfl
        have q1 : wr.cell? ⟨b0, off + k * 3 + 1, none⟩ = some (.int .i64 x.p) := hc 1 _ rfl
        have q2 : wr.cell? ⟨b0, off + k * 3 + 2, none⟩ = some (.bool x.z) := hc 2 _ rfl
        have hxv := hv x (List.mem_of_getElem? hx)
        have Hxv := Lib.hid hxv
        have Hx := Lib.hid (rparts_take hx)
        have hbx := hb.alloc hsz (.cells #[.int .i64 x.s, .int .i64 x.p, .bool x.z] 60)
        have hLx := hL.below (below_alloc (Below.refl _ _) (.cells #[.int .i64 x.s, .int .i64 x.p, .bool x.z] 60)) (Nat.le_refl _)
        clear hx hc hxv hv h hok hL hrl
        go_wp2_with fail
        refine (implInputCode_ok x _ Hxv.out).mono ?_
        rintro e w2 ⟨rfl, hb2⟩
        have hL2 := hLx.below hb2 (by simp)
        have hd2 := below_after hbx hb2
        have hs2 : wr.heap.size + 1 ≤ w2.heap.size := by have := hb2.size; simpa using this
        clear hLx hbx hb2
        cases hR : rparts (l.take k) with
        | nil =>
          rw [hR] at hL2 Hx
          obtain rfl := hL2
          go_wp2
          case roundEnd =>
            go_roundw
            case rel => exact ⟨k + 1, by omega, by go_num, by rw [Hx.out]; exact ⟨_, _, rfl, by omega, by simp, Blk.new w2 #[.int .i64 (code x), .int .i64 1, .pointer none] _, by simp, rfl⟩, below_alloc hd2 _⟩
            case measure => simp [intOf]; omega
        | cons p ps =>
          rw [hR] at hL2 hR2 hR1
          rw [hR, bump_cons] at Hx
          have hL2' := hL2
          obtain ⟨b, v', rfl, hB1, hb3, hBk, hf, hL3⟩ := hL2
          obtain ⟨r0, r1, r2⟩ := hBk.c3
          have hm := hR2 p (List.mem_cons_self ..)
          by_cases hpc : p.c = code x
          · rw [if_pos hpc] at Hx
            have hN := Lk.bump (p.m + 1) hB1 hb3 hBk hf hL3
            have hd3 := hd2.setCell (p := ⟨b, 1, none⟩) hB1 (.int .i64 (p.m + 1))
            clear hL2'
            go_wp2
            case roundEnd =>
              go_roundw
              case rel => exact ⟨k + 1, by omega, by go_num, by rw [Hx.out]; exact hN.mono (by simp; omega), hd3⟩
              case measure => simp [intOf]; omega
          · rw [if_neg hpc] at Hx
            have HL := Lib.hid hL2'
            clear hL2'
            go_wp2
            case roundEnd =>
              go_roundw
              case rel => exact ⟨k + 1, by omega, by go_num, by rw [Hx.out]; exact ⟨_, _, rfl, by omega, by simp, Blk.new w2 #[.int .i64 (code x), .int .i64 1, .pointer (some ⟨b, 0, none⟩)] _, by simp, (HL.out.mono (show wr.heap.size ≤ w2.heap.size by omega)).below (below_alloc (Below.refl _ _) _) (Nat.le_refl _)⟩, below_alloc hd2 _⟩
              case measure => simp [intOf]; omega
      · have hke : k = l.length := by omega
        rw [hke, List.take_length] at hL hR1
        go_wp2_with fail
        refine (partNodeParts_any _ _ _ _ _ hL (Nat.le_refl _) (by omega)).mono ?_
        rintro e w2 ⟨A2, c2, rfl, hc2, ho2, hb2⟩
        go_wp2
        rw [hrl]
        exact bodyPost_ret (v := .slice A2 (partsOf l).length c2) (by simp [results, Try.results38, go_sem, partsOf]) rfl ⟨A2, c2, rfl, hc2, ho2.mono hsz, below_after hb hb2⟩
end Go.Proofs.Ytkendoffknjpiaa
