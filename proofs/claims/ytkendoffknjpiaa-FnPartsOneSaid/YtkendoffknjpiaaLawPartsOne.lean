/- The law FnPartsOne: its walk. -/
import Derived.Test.YtkendoffknjpiaaLawParts
import Derived.Deep.RegionHeld3
namespace Go.Proofs.Ytkendoffknjpiaa
open Go.ChangeShapes Go.WideShapes Go.ChangeAt Go.RowKit
theorem keepB {w w' : World} {b off : Nat} {u0 u1 u2 : Value} (h0 : w.cell? ⟨b, off, none⟩ = some u0) (h1 : w.cell? ⟨b, off + 1, none⟩ = some u1) (h2 : w.cell? ⟨b, off + 2, none⟩ = some u2) (hb : b < w.heap.size) (h : Below w.heap.size w w') :
    w'.cell? ⟨b, off, none⟩ = some u0 ∧ w'.cell? ⟨b, off + 1, none⟩ = some u1 ∧ w'.cell? ⟨b, off + 2, none⟩ = some u2 :=
  ⟨(h.cell (p := ⟨b, off, none⟩) hb).trans h0, (h.cell (p := ⟨b, off + 1, none⟩) hb).trans h1, (h.cell (p := ⟨b, off + 2, none⟩) hb).trans h2⟩
set_option maxRecDepth 100000 in
set_option maxHeartbeats 2000000 in
theorem lawPartsOne (A B : Option Addr) (n n' c c' : Nat) (l : List Int) (w : World) (h : Sl w 1 encU8 A n l) (hl : ∀ x ∈ l, 0 ≤ x ∧ x < 256) (hn : n ≤ 9223372036854775807) (hnc : n ≤ c) (hc : c ≤ 9223372036854775807) (hn' : n' ≤ 9223372036854775807) :
    Calls Try.prog 9 #[.slice A n c, .slice B n' c'] w fun e w' => e = .returned (.bool true) ∧ Below w.heap.size w w' := by
  obtain ⟨i0, hi, hz0, hz1, hz2⟩ := info_parts Try.infoInp
  by_cases h1 : 1048576 < (n : Int)
  · go_enter Try.func9, Try.ntmps9
    go_wp2
    go_ret
    exact ⟨rfl, Below.refl _ _⟩
  · by_cases h2 : 1048576 < (n' : Int)
    · go_enter Try.func9, Try.ntmps9
      go_wp2
      go_ret
      exact ⟨rfl, Below.refl _ _⟩
    · go_enter Try.func9, Try.ntmps9
      go_wp2_with fail
      refine (drawReplayParts_any A n c l _ h hl hn hnc hc).mono ?_
      rintro e w1 ⟨ins, A1, c1, rfl, ⟨_, hil⟩, ho1, hd1⟩
      have hL := partsL_le ins
      clear h hl
      go_wp2_with fail
      refine (implReplayParts_any _ _ ins _ (ho1.sl' encInp_len) (by omega)).mono ?_
      rintro e w2 ⟨AG, cG, rfl, hcG, hG2, hb2⟩
      have hd2 := below_after hd1 hb2
      have ho2 := ho1.later hb2
      clear hd1 hb2 ho1
      go_wp2_with fail
      refine (specReplayParts_any _ _ ins _ (ho2.sl' encInp_len) (by omega)).mono ?_
      rintro e w3 ⟨AS, cS, rfl, hcS, hS3, hb3⟩
      have hd3 := below_after hd2 hb3
      have ho3 := ho2.later hb3
      have hG3 := hG2.later hb3
      clear hd2 hb3 ho2 hG2
      go_wp2_with fail
      refine (sameParts_same _ _ _ _ _ _ _ _ (hG3.sl' encPrt_len) (hS3.sl' encPrt_len) (by omega) (by omega)).mono ?_
      rintro e w4 ⟨rfl, hb4⟩
      have hd4 := below_after hd3 hb4
      have ho4 := ho3.later hb4
      have hG4 := hG3.later hb4
      have hS4 := hS3.later hb4
      clear hd3 hb4 ho3 hG3 hS3
      by_cases hpos : 0 < (partsL ins).length
      · obtain ⟨hok, -, hil0⟩ := partsL_pos hpos
        have hne : ¬ ((partsL ins).length : Int) = 0 := by omega
        have hnb : (((partsL ins).length : Int) == 0) = false := by simpa using hne
        obtain ⟨b, off, x, rfl, hbl, hx, hcx⟩ := (ho4.sl' encInp_len).at_ (k := 0) hil0
        have hxok := (inputsOkB_iff.1 hok).1 x (List.mem_of_getElem? hx)
        have q0 : w4.cell? ⟨b, off, none⟩ = some (.int .i64 x.s) := by have := hcx 0 _ rfl; simpa using this
        have q1 : w4.cell? ⟨b, off + 1, none⟩ = some (.int .i64 x.p) := by have := hcx 1 _ rfl; simpa using this
        have q2 : w4.cell? ⟨b, off + 2, none⟩ = some (.bool x.z) := by have := hcx 2 _ rfl; simpa using this
        obtain ⟨m, hm, hm1⟩ : ∃ m : Nat, 1 + (n' : Int) % 60 = (m : Int) ∧ 1 ≤ m ∧ m ≤ 60 := ⟨1 + n' % 60, by simp, by omega, by omega⟩
        obtain ⟨hm1, hm2⟩ := hm1
        have HXOK := Lib.hid hxok
        have hil1 : (0 : Int) < (ins.length : Int) := by omega
        clear hG4 hS4 hcx hx hxok hok ho4
        have hz4 := hd4.size
        go_wp2
        go_loopw [9, 10] (fun v i wr => ∃ (k : Nat) (xs : List Inp), k ≤ m ∧ i = .int .i64 k ∧ xs = List.replicate k x ∧ Own wr w4.heap.size 60 3 encInp v xs ∧ Below w4.heap.size w4 wr) (fun _ i _ => m - (intOf i).toNat)
        case atStart => exact ⟨0, [], Nat.zero_le _, by go_num, rfl, own_nil_inp _ _ _ _ (Nat.le_refl _) rfl, by (repeat (first | (with_reducible exact Below.refl _ _) | (with_reducible refine below_alloc ?_ _) | (with_reducible refine below_setCell ?_ ?_ _; (simp <;> omega)) | (with_reducible refine below_drew ?_) | (with_reducible refine below_drewN ?_ _) | (with_reducible refine below_after ?_ (by assumption))))⟩
        case round =>
          obtain ⟨k, xs, hk, rfl, hxs, ho, hb⟩ := hrel
          have HXS := Lib.hid hxs
          have hrb : xs.length ≤ 60 := by rw [hxs, List.length_replicate]; omega
          clear hxs
          obtain ⟨Av, cv, rfl, hcv, _⟩ := ho.form
          have hlo := ho.lt
          have hsz := hb.size
          have r0 : wr.cell? ⟨b, off, none⟩ = some (.int .i64 x.s) := (hb.cell (p := ⟨b, off, none⟩) hbl).trans q0
          have r1 : wr.cell? ⟨b, off + 1, none⟩ = some (.int .i64 x.p) := (hb.cell (p := ⟨b, off + 1, none⟩) hbl).trans q1
          have r2 : wr.cell? ⟨b, off + 2, none⟩ = some (.bool x.z) := (hb.cell (p := ⟨b, off + 2, none⟩) hbl).trans q2
          have hbr : b < wr.heap.size := by omega
          by_cases hlt : k < m
          · go_wp2_with (at_builtin; refine wp_appS rfl _ _ _ rfl w4.heap.size 60 i0 (.agg #[.int .i64 0, .int .i64 0, .bool false]) 3 24 Try.underlying33 hi hz0 hz1 hz2 rfl (by decide) encInp_len one_inp _ xs [x] rfl (ho.alloc _) _ 1 1 rfl (Sl.one _ _ _ _ rfl) (by intro e; cases e) (by unfold maxLen; omega) (by omega) (by simp; omega) ?_; intro v9 w9 O9 hg9)
            case roundEnd =>
              have hg5 : (wr.alloc (.cells #[.int .i64 x.s, .int .i64 x.p, .bool x.z] 60)).grownBy w9 (Value.slice Av xs.length cv).ownBlock := hg9
              have hb9 : Below w4.heap.size w4 w9 := (below_alloc hb _).grown hg5 (by simp; omega) (fun g e => (hlo g e).1)
              go_roundw
              case rel => exact ⟨k + 1, xs ++ [x], by omega, by go_num, by rw [List.replicate_succ', HXS.out], O9, hb9⟩
              case measure => simp [intOf]; omega
          · have hke : k = m := by omega
            subst hke
            have hp1 : Hid (partsL xs = [⟨code x, k⟩]) := Lib.hid (by rw [HXS.out]; exact parts_one HXOK.out hm1 hm2)
            go_wp2
            go_region_held3 (fun w' => w'.cell? ⟨b, off, none⟩ = some (.int .i64 x.s) ∧ w'.cell? ⟨b, off + 1, none⟩ = some (.int .i64 x.p) ∧ w'.cell? ⟨b, off + 2, none⟩ = some (.bool x.z))
              (first | (with_reducible exact keepB r0 r1 r2 hbr (below_drew (Below.refl _ _))) | (with_reducible exact keepB r0 r1 r2 hbr (below_after (below_drew (Below.refl _ _)) hb10)) | (with_reducible exact keepB r0 r1 r2 hbr (below_after (below_after (below_drew (Below.refl _ _)) hb10) hb11)) | (with_reducible exact keepB r0 r1 r2 hbr (below_alloc (below_after (below_after (below_drew (Below.refl _ _)) hb10) hb11) _)) | (with_reducible exact keepB r0 r1 r2 hbr (below_after (below_alloc (below_after (below_after (below_drew (Below.refl _ _)) hb10) hb11) _) hb12)))
              (first
              | (go_at_call 38; refine (implReplayParts_any _ _ xs _ (ho.drew.sl' encInp_len) (by omega)).mono ?_; rw [hp1.out]; rintro e w10 ⟨A10, c10, rfl, hc10, hG10, hb10⟩)
              | (go_at_call 48; refine (implInputCode_ok x _ HXOK.out).mono ?_; rintro e w11 ⟨rfl, hb11⟩)
              | (go_at_call 47; refine (sameParts_same _ _ 1 1 _ _ [⟨code x, k⟩] _ ((hG10.sl' encPrt_len).below (below_alloc hb11 _)) (Sl.one_at _ _ _ _ (by rfl) rfl) (by omega) (by omega)).mono ?_; rintro e w12 ⟨rfl, hb12⟩))
            go_wp2
            go_ret
            exact ⟨rfl, by (repeat (first | (with_reducible exact Below.refl _ _) | (with_reducible refine below_alloc ?_ _) | (with_reducible refine below_setCell ?_ ?_ _; (simp <;> omega)) | (with_reducible refine below_drew ?_) | (with_reducible refine below_drewN ?_ _) | (with_reducible refine below_after ?_ (by assumption))))⟩
      · have hne2 : ((partsL ins).length : Int) = 0 := by omega
        have hne : (((partsL ins).length : Int) == 0) = true := by rw [beq_iff_eq]; omega
        go_wp2_with fail
        refine (sameParts_same _ _ _ _ _ _ _ _ (hG4.sl' encPrt_len) (hS4.sl' encPrt_len) (by omega) (by omega)).mono ?_
        rintro e w5 ⟨rfl, hb5⟩
        have hd5 := below_after hd4 hb5
        go_wp2
        go_ret
        exact ⟨rfl, hd5⟩
end Go.Proofs.Ytkendoffknjpiaa
