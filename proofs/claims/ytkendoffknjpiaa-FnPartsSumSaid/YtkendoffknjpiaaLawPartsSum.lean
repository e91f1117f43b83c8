/- The law FnPartsSum: its walk. -/
import Derived.Test.YtkendoffknjpiaaLawParts
namespace Go.Proofs.Ytkendoffknjpiaa
open Go.ChangeShapes Go.WideShapes Go.ChangeAt Go.RowKit
theorem sumM_bd {ps : List Prt} (h : ∀ p ∈ ps, 1 ≤ p.m ∧ p.m ≤ 60) (hl : ps.length ≤ 60) : ∀ k, k ≤ ps.length → 0 ≤ sumM (ps.take k) ∧ sumM (ps.take k) ≤ 60 * k
  | 0, _ => by simp [sumM]
  | k + 1, hk => by
    have hx : ps[k]? = some (ps[k]'(by omega)) := List.getElem?_eq_getElem _
    rw [sumM_succ hx]
    have h1 := sumM_bd h hl k (by omega)
    have h2 := h _ (List.getElem_mem (by omega : k < ps.length))
    omega
theorem parts_m_le {l : List Inp} (h : inputsOkB l = true) : ∀ p ∈ partsOf l, 1 ≤ p.m ∧ p.m ≤ 60 := by
  intro p hp
  refine ⟨parts_m hp, ?_⟩
  have h2 := (rparts_bd l l.length).2
  rw [List.take_length] at h2
  have h3 := h2 p (by unfold partsOf at hp; simpa using hp)
  have h4 := (inputsOkB_iff.1 h).2
  omega
set_option maxRecDepth 100000 in
set_option maxHeartbeats 2000000 in
theorem lawPartsSum (A : Option Addr) (n c : Nat) (l : List Int) (w : World) (h : Sl w 1 encU8 A n l) (hl : ∀ x ∈ l, 0 ≤ x ∧ x < 256) (hn : n ≤ 9223372036854775807) (hnc : n ≤ c) (hc : c ≤ 9223372036854775807) :
    Calls Try.prog 10 #[.slice A n c] w fun e w' => e = .returned (.bool true) ∧ Below w.heap.size w w' := by
  by_cases h1 : 1048576 < (n : Int)
  · go_enter Try.func10, Try.ntmps10
    go_wp2
    go_ret
    exact ⟨rfl, Below.refl _ _⟩
  · go_enter Try.func10, Try.ntmps10
    go_wp2_with fail
    refine (drawReplayParts_any A n c l _ h hl hn hnc hc).mono ?_
    rintro e w1 ⟨ins, A1, c1, rfl, ⟨_, hil⟩, ho1, hd1⟩
    have hL := partsL_le ins
    clear h hl
    go_wp2_with fail
    refine (implReplayParts_any _ _ ins _ (ho1.sl' encInp_len) (by omega)).mono ?_
    rintro e w2 ⟨AG, cG, rfl, hcG, hG2, hb2⟩
    have hd2 := below_after hd1 hb2
    have ho2 := ho1.later hb2
    clear hd1 hb2 ho1
    go_wp2_with fail
    refine (specReplayParts_any _ _ ins _ (ho2.sl' encInp_len) (by omega)).mono ?_
    rintro e w3 ⟨AS, cS, rfl, hcS, hS3, hb3⟩
    have hd3 := below_after hd2 hb3
    have hG3 := hG2.later hb3
    clear hd2 hb3 ho2 hG2
    go_wp2_with fail
    refine (sameParts_same _ _ _ _ _ _ _ _ (hG3.sl' encPrt_len) (hS3.sl' encPrt_len) (by omega) (by omega)).mono ?_
    rintro e w4 ⟨rfl, hb4⟩
    have hd4 := below_after hd3 hb4
    have hG4 := hG3.later hb4
    have hS4 := hS3.later hb4
    clear hd3 hb4 hG3 hS3
    by_cases hpos : 0 < (partsL ins).length
    · obtain ⟨hok, hpe, _⟩ := partsL_pos hpos
      have hm := parts_m_le hok
      have hsum := parts_sum ins
      have hne' : ∀ (k : Nat) (p q : Prt), (partsOf ins)[k]? = some p → (partsOf ins)[k + 1]? = some q → p.c ≠ q.c := fun k p q => parts_ne
      rw [← hpe] at hm hsum hne'
      have hsb := sumM_bd hm hL
      have hne : ¬ ((partsL ins).length : Int) = 0 := by omega
      have hnb : (((partsL ins).length : Int) == 0) = false := by simpa using hne
      have hsl := hG4.sl' encPrt_len
      clear hS4 hG4 hcG hcS
      generalize partsL ins = ps at *
      have HM := Lib.hid hm
      have HSUM := Lib.hid hsum
      have HNE := Lib.hid hne'
      have HSB := Lib.hid hsb
      clear hpe hm hsum hne' hsb
      go_wp2
      go_loopw [6, 7] (fun s i wr => ∃ k : Nat, k ≤ ps.length ∧ i = .int .i64 k ∧ s = .int .i64 (sumM (ps.take k)) ∧ Below w4.heap.size w4 wr) (fun _ i _ => ps.length - (intOf i).toNat)
      case atStart => exact ⟨0, Nat.zero_le _, rfl, by simp [sumM], Below.refl _ _⟩
      case round =>
        obtain ⟨k, hk, rfl, rfl, hb⟩ := hrel
        by_cases hlt : k < ps.length
        · obtain ⟨b, off, x, rfl, hbw, hx, hcw⟩ := (hsl.below hb).at_ hlt
          obtain ⟨q0, q1⟩ := prt_at hcw
          have hmx := HM.out x (List.mem_of_getElem? hx)
          have hsk := HSB.out k hk
          have HS := Lib.hid (sumM_succ hx)
          have HX := Lib.hid hx
          clear hcw hx
          obtain ⟨xc, xm⟩ := x
          simp only at q0 q1 hmx HS
          obtain ⟨hm0, hm1⟩ := hmx
          obtain ⟨hs0, hs1⟩ := hsk
          have hmd : decide (xm < 1) = false := by simp; omega
          rcases Nat.eq_zero_or_pos k with hk0 | hk0
          · have hk1 : decide ((0 : Int) < (k : Int)) = false := by simp; omega
            have hk2 : decide (0 < k) = false := by simp; omega
            have HK0 := Lib.hid hk0
            clear hk0
            go_wp2
            go_quiet (fail)
            go_wp2
            go_roundw
            case rel => exact ⟨k + 1, by omega, by go_num, by rw [HS.out], by (repeat (first | (with_reducible exact Below.refl _ _) | (with_reducible refine below_alloc ?_ _) | (with_reducible refine below_setCell ?_ ?_ _; (simp <;> omega)) | (with_reducible refine below_drew ?_) | (with_reducible refine below_drewN ?_ _) | (with_reducible refine below_after ?_ (by assumption))))⟩
            case measure => simp [intOf]; omega
          · obtain ⟨b2, off2, y, hA2, hbl2, hy, hcy⟩ := (hsl.below hb).at_ (k := k - 1) (by omega)
            simp only [Option.some.injEq, Addr.mk.injEq, and_true] at hA2
            obtain ⟨rfl, rfl⟩ := hA2
            obtain ⟨y0, y1⟩ := prt_at hcy
            obtain ⟨yc, ym⟩ := y
            simp only at y0 y1
            have hyne : yc ≠ xc := HNE.out (k - 1) _ _ hy (by rw [show k - 1 + 1 = k by omega]; exact HX.out)
            have hq : (yc == xc) = false := by simpa using hyne
            have hk1 : decide (0 < k) = true := by simpa using hk0
            have hk7 : 1 ≤ k := hk0
            have hk2 : (0 : Int) < (k : Int) := by omega
            have hk3 : IntKind.i64.wrap ((k : Int) - 1) = (k : Int) - 1 := IntWalk.i64_in _ (by omega)
            have hk4 : ((k : Int) - 1).toNat = k - 1 := by omega
            have hk5 : (0 : Int) ≤ (k : Int) - 1 := by omega
            have hk6 : (k : Int) - 1 < (ps.length : Int) := by omega
            clear hcy hy
            go_wp2
            go_quiet (fail)
            go_wp2
            go_roundw
            case rel => exact ⟨k + 1, by omega, by go_num, by rw [HS.out], by (repeat (first | (with_reducible exact Below.refl _ _) | (with_reducible refine below_alloc ?_ _) | (with_reducible refine below_setCell ?_ ?_ _; (simp <;> omega)) | (with_reducible refine below_drew ?_) | (with_reducible refine below_drewN ?_ _) | (with_reducible refine below_after ?_ (by assumption))))⟩
            case measure => simp [intOf]; omega
        · have hke : k = ps.length := by omega
          subst hke
          have hs2 : sumM (ps.take ps.length) = (ins.length : Int) := by rw [List.take_length]; exact HSUM.out
          clear hsl
          rw [hs2]
          go_wp2
          go_ret
          exact ⟨rfl, below_after hd4 hb⟩
    · have hne2 : ((partsL ins).length : Int) = 0 := by omega
      have hne : (((partsL ins).length : Int) == 0) = true := by rw [beq_iff_eq]; omega
      go_wp2_with fail
      refine (sameParts_same _ _ _ _ _ _ _ _ (hG4.sl' encPrt_len) (hS4.sl' encPrt_len) (by omega) (by omega)).mono ?_
      rintro e w5 ⟨rfl, hb5⟩
      have hd5 := below_after hd4 hb5
      go_wp2
      go_ret
      exact ⟨rfl, hd5⟩
end Go.Proofs.Ytkendoffknjpiaa
