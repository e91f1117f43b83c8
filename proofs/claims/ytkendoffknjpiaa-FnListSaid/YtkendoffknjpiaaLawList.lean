/- The law FnList: its walk. -/
import Derived.Test.YtkendoffknjpiaaLawReplayScore
import Derived.Deep.RegionHeld3
namespace Go.Proofs.Ytkendoffknjpiaa
open Go.ChangeShapes Go.WideShapes Go.ChangeAt Go.RowKit
theorem repL_pos {r : Rep} (h : 0 < (repL r).length) : replayOk r = true ∧ repL r = repList r := by
  unfold repL at *
  cases hv : replayOk r with
  | false => rw [hv] at h; simp at h
  | true => exact ⟨rfl, by simp⟩
theorem repList_code {lv pl sc tag : Int} {ins : List Inp} {hs : List Int} {k : Nat} {x : Inp} (h : ins[k]? = some x) : (repList ⟨lv, pl, sc, ins, hs, tag⟩)[4 + k]? = some (code x) := by
  have hk : k < ins.length := (List.getElem?_eq_some_iff.1 h).1
  unfold repList repHead
  simp only
  rw [List.append_assoc, List.getElem?_append_right (by simp), List.getElem?_append_left (by simp; omega)]
  simp [h]
theorem repList_take (lv pl sc tag : Int) (ins : List Inp) (hs : List Int) : (repList ⟨lv, pl, sc, ins, hs, tag⟩).take 4 = [lv, pl, sc, (ins.length : Int)] := rfl
theorem repList_drop (lv pl sc tag : Int) (ins : List Inp) (hs : List Int) : (repList ⟨lv, pl, sc, ins, hs, tag⟩).drop (4 + ins.length) = hs := by
  unfold repList repHead
  simp only
  rw [List.drop_append_of_le_length (by simp; omega)]
  rw [List.drop_of_length_le (by simp; omega)]
  rfl
theorem Sl.take' {α : Type} {w : World} {sz : Nat} {enc : α → List Value} {A : Option Addr} {n m : Nat} {l : List α} (h : Sl w sz enc A n l) (hm : m ≤ n) : Sl w sz enc A m (l.take m) :=
  ⟨by rw [List.length_take, h.len]; omega, fun hp => by
    obtain ⟨b, off, e, hlt, hc⟩ := h.2 (by omega)
    exact ⟨b, off, e, hlt, fun k x hk => hc k x (by rw [List.getElem?_take] at hk; split at hk; exact hk; cases hk)⟩⟩
theorem keep4 {w w' : World} {a0 a1 a2 a3 : Addr} {u0 u1 u2 u3 : Value} (h0 : w.cell? a0 = some u0) (h1 : w.cell? a1 = some u1) (h2 : w.cell? a2 = some u2) (h3 : w.cell? a3 = some u3)
    (b0 : a0.block < w.heap.size) (b1 : a1.block < w.heap.size) (b2 : a2.block < w.heap.size) (b3 : a3.block < w.heap.size) (h : Below w.heap.size w w') :
    w'.cell? a0 = some u0 ∧ w'.cell? a1 = some u1 ∧ w'.cell? a2 = some u2 ∧ w'.cell? a3 = some u3 :=
  ⟨(h.cell b0).trans h0, (h.cell b1).trans h1, (h.cell b2).trans h2, (h.cell b3).trans h3⟩
theorem keep5 {w w' : World} {a0 a1 a2 a3 a4 : Addr} {u0 u1 u2 u3 u4 : Value} (h0 : w.cell? a0 = some u0) (h1 : w.cell? a1 = some u1) (h2 : w.cell? a2 = some u2) (h3 : w.cell? a3 = some u3) (h4 : w.cell? a4 = some u4)
    (b0 : a0.block < w.heap.size) (b1 : a1.block < w.heap.size) (b2 : a2.block < w.heap.size) (b3 : a3.block < w.heap.size) (b4 : a4.block < w.heap.size) (h : Below w.heap.size w w') :
    w'.cell? a0 = some u0 ∧ w'.cell? a1 = some u1 ∧ w'.cell? a2 = some u2 ∧ w'.cell? a3 = some u3 ∧ w'.cell? a4 = some u4 :=
  ⟨(h.cell b0).trans h0, (h.cell b1).trans h1, (h.cell b2).trans h2, (h.cell b3).trans h3, (h.cell b4).trans h4⟩
set_option maxRecDepth 100000 in
set_option maxHeartbeats 2000000 in
theorem lawList (A : Option Addr) (n c : Nat) (l : List Int) (w : World) (h : Sl w 1 encU8 A n l) (hl : ∀ x ∈ l, 0 ≤ x ∧ x < 256) (hn : n ≤ 9223372036854775807) (hnc : n ≤ c) (hc : c ≤ 9223372036854775807) :
    Calls Try.prog 16 #[.slice A n c] w fun e w' => e = .returned (.bool true) ∧ Below w.heap.size w w' := by
  by_cases h1 : 1048576 < (n : Int)
  · go_enter Try.func16, Try.ntmps16
    go_wp2
    go_ret
    exact ⟨rfl, Below.refl _ _⟩
  · go_enter Try.func16, Try.ntmps16
    go_wp2_with fail
    refine (drawReplayList_any A n c l _ h hl hn hnc hc).mono ?_
    rintro e w1 ⟨r, A1, c1, A2, c2, rfl, hL, hP1, hO1, hd1⟩
    obtain ⟨lv, pl, sc, ins, hs, tag⟩ := r
    have hni := hL.nin
    have hnh := hL.nhs
    have hll := repL_le ⟨lv, pl, sc, ins, hs, tag⟩
    simp only at hni hnh hP1 hO1
    clear h hl hL
    go_wp2_with fail
    refine (implReplayList_any _ _ _ _ ⟨lv, pl, sc, ins, hs, tag⟩ _ ((hP1.alloc _).sl' encInp_len) ((hO1.alloc _).sl' encInt_len) (by simp only; omega) (by simp only; omega) hO1.none_cap).mono ?_
    rintro e w2 ⟨A3, c3, rfl, hc3, hG2, hb2⟩
    have B2 : Bk w2 w1.heap.size 35 #[.int .i64 lv, .int .i64 pl, .int .i64 sc, .slice A1 ins.length c1, .slice A2 hs.length c2, .int .i64 tag] := (Bk.new w1 _ _ rfl).later hb2
    have P2 := (hP1.alloc (.cells #[.int .i64 lv, .int .i64 pl, .int .i64 sc, .slice A1 ins.length c1, .slice A2 hs.length c2, .int .i64 tag] 35)).later hb2
    have O2 := (hO1.alloc (.cells #[.int .i64 lv, .int .i64 pl, .int .i64 sc, .slice A1 ins.length c1, .slice A2 hs.length c2, .int .i64 tag] 35)).later hb2
    have hd2 := below_after (below_alloc hd1 _) hb2
    have hz1 := hd1.size
    clear hb2 hP1 hO1 hd1
    have z2 := B2.lt
    obtain ⟨⟨b0, b1, b2, b3, b4, b5⟩, bf⟩ := B2.c6
    go_wp2_with fail
    refine (specReplayList_any _ _ _ _ ⟨lv, pl, sc, ins, hs, tag⟩ _ (P2.sl' encInp_len) (O2.sl' encInt_len) (by simp only; omega) (by simp only; omega) O2.none_cap).mono ?_
    rintro e w3 ⟨A4, c4, rfl, hc4, hS3, hb3⟩
    have B3 := B2.later hb3
    have P3 := P2.later hb3
    have O3 := O2.later hb3
    have G3 := hG2.later hb3
    have hd3 := below_after hd2 hb3
    clear B2 P2 O2 hG2 hd2 hb3 b0 b1 b2 b3 b4 b5 bf z2
    go_wp2_with fail
    refine (sameInts_same _ _ _ _ _ _ _ _ (G3.sl' encInt_len) (hS3.sl' encInt_len) (by omega) (by omega)).mono ?_
    rintro e w4 ⟨rfl, hb4⟩
    have B4 := B3.later hb4
    have P4 := P3.later hb4
    have O4 := O3.later hb4
    have G4 := G3.later hb4
    have S4 := hS3.later hb4
    have hd4 := below_after hd3 hb4
    clear B3 P3 O3 G3 hS3 hd3 hb4
    have z4 := B4.lt
    have hz4 := hd4.size
    obtain ⟨⟨b0, b1, b2, b3, b4, b5⟩, bf⟩ := B4.c6
    by_cases hpos : 0 < (repL ⟨lv, pl, sc, ins, hs, tag⟩).length
    · have hne : ¬ ((repL ⟨lv, pl, sc, ins, hs, tag⟩).length : Int) = 0 := by omega
      have hnb : (((repL ⟨lv, pl, sc, ins, hs, tag⟩).length : Int) == 0) = false := by simpa using hne
      obtain ⟨hok, hre⟩ := repL_pos hpos
      have hinp := (replayOk_bd hok).1
      simp only at hinp
      have hcode : ∀ (k : Nat) (x : Inp), ins[k]? = some x → (repL ⟨lv, pl, sc, ins, hs, tag⟩)[4 + k]? = some (code x) := fun k x hx => by rw [hre]; exact repList_code hx
      have hlen : (repL ⟨lv, pl, sc, ins, hs, tag⟩).length = 4 + ins.length + hs.length := by rw [hre]; exact repList_len _
      have htake : (repL ⟨lv, pl, sc, ins, hs, tag⟩).take 4 = [lv, pl, sc, (ins.length : Int)] := by rw [hre]; rfl
      have hdrop : (repL ⟨lv, pl, sc, ins, hs, tag⟩).drop (4 + ins.length) = hs := by rw [hre]; exact repList_drop ..
      have GS := G4.sl' encInt_len
      have PS := P4.sl' encInp_len
      have OS := O4.sl' encInt_len
      clear hre hok G4 S4 P4 O4
      generalize repL ⟨lv, pl, sc, ins, hs, tag⟩ = L at *
      have HIN := Lib.hid hinp
      have HCO := Lib.hid hcode
      have HLE := Lib.hid hlen
      have HTK := Lib.hid htake
      have HDR := Lib.hid hdrop
      have hLb : 4 + ins.length ≤ L.length := by omega
      clear hinp hcode hlen htake hdrop
      go_wp2
      go_loopw [7] (fun i wr => ∃ k : Nat, k ≤ ins.length ∧ i = .int .i64 k ∧ Below w4.heap.size w4 wr) (fun i _ => ins.length - (intOf i).toNat)
      case atStart => exact ⟨0, Nat.zero_le _, rfl, Below.refl _ _⟩
      case round =>
        obtain ⟨k, hk, rfl, hb⟩ := hrel
        have Br := B4.later hb
        have zr := Br.lt
        have hzr := hb.size
        clear b0 b1 b2 b3 b4 b5 bf
        obtain ⟨⟨b0, b1, b2, b3, b4, b5⟩, bf⟩ := Br.c6
        by_cases hlt : k < ins.length
        · obtain ⟨b, off, x, rfl, hbl, hx, hcx⟩ := (PS.below hb).at_ hlt
          have q0 : wr.cell? ⟨b, off + k * 3, none⟩ = some (.int .i64 x.s) := hcx 0 _ rfl
          have q1 : wr.cell? ⟨b, off + k * 3 + 1, none⟩ = some (.int .i64 x.p) := hcx 1 _ rfl
          have q2 : wr.cell? ⟨b, off + k * 3 + 2, none⟩ = some (.bool x.z) := hcx 2 _ rfl
          obtain ⟨b', off', y, rfl, hbl', hy, hcy⟩ := (GS.below hb).at_ (k := 4 + k) (by omega)
          have p0 := int_at hcy
          have hyx : y = code x := by have := HCO.out k x hx; rw [hy] at this; injection this
          subst hyx
          have hxok := Lib.hid (HIN.out x (List.mem_of_getElem? hx))
          have k1 : (0 : Int) ≤ (k : Int) := by omega
          have k2 : (k : Int) < (ins.length : Int) := by omega
          have k3 : IntKind.i64.wrap (4 + (k : Int)) = 4 + (k : Int) := IntWalk.i64_in _ (by omega)
          have k4 : (4 + (k : Int)).toNat = 4 + k := by omega
          have k5 : (0 : Int) ≤ 4 + (k : Int) := by omega
          have k6 : 4 + (k : Int) < (L.length : Int) := by omega
          clear hcx hcy hx hy
          go_wp2
          go_region_held3 (fun w' => w'.cell? ⟨b', off' + (4 + k), none⟩ = some (.int .i64 (code x)) ∧ w'.cell? ⟨w1.heap.size, 3, none⟩ = some (.slice (some ⟨b, off, none⟩) ins.length c1) ∧ w'.cell? ⟨b, off + k * 3, none⟩ = some (.int .i64 x.s) ∧ w'.cell? ⟨b, off + k * 3 + 1, none⟩ = some (.int .i64 x.p) ∧ w'.cell? ⟨b, off + k * 3 + 2, none⟩ = some (.bool x.z))
            (first | (with_reducible exact keep5 p0 b3 q0 q1 q2 hbl' zr hbl hbl hbl (below_drew (Below.refl _ _))) | (with_reducible exact keep5 p0 b3 q0 q1 q2 hbl' zr hbl hbl hbl (below_after (below_drew (Below.refl _ _)) hb9)))
            (first
            | (go_at_call 48; refine (implInputCode_ok x _ hxok.out).mono ?_; rintro e w9 ⟨rfl, hb9⟩))
          have hb10 := below_after (below_drew (Below.refl wr.heap.size wr)) hb9
          go_wp2
          go_roundw
          case rel => exact ⟨k + 1, by omega, by go_num, below_after hb hb10⟩
          case measure => simp [intOf]; omega
        · have hke : k = ins.length := by omega
          subst hke
          have GSr := GS.below hb
          have OSr := OS.below hb
          have PSr := hb
          obtain ⟨b', off', y0, rfl, hbl', _, _⟩ := GSr.at_ (k := 0) hpos
          have T4 : Sl wr 1 encInt (some ⟨b', off', none⟩) 4 [lv, pl, sc, (ins.length : Int)] := by rw [← HTK.out]; exact GSr.take' (by omega)
          obtain ⟨ad, hAd, hSd⟩ : ∃ ad, (if c3 = 4 + ins.length then some (⟨b', off', none⟩ : Addr) else some ⟨b', off' + (4 + ins.length), none⟩) = some ad ∧ Sl wr 1 encInt (some ad) (L.length - (4 + ins.length)) hs := by
            have hlen := HLE.out
            have hdl : (L.drop (4 + ins.length)).length = L.length - (4 + ins.length) := List.length_drop
            rw [HDR.out] at hdl
            by_cases hcap : c3 = 4 + ins.length
            · refine ⟨_, by rw [if_pos hcap], hdl, fun hp => ?_⟩
              omega
            · refine ⟨_, by rw [if_neg hcap], hdl, fun hp => ⟨b', off' + (4 + ins.length), rfl, hbl', fun j y hj i v hv => ?_⟩⟩
              obtain ⟨b2, off2, e2, hlt', hcc⟩ := GSr.2 hpos
              cases e2
              have hj2 : L[4 + ins.length + j]? = some y := by rw [← HDR.out, List.getElem?_drop] at hj; exact hj
              have := hcc _ y hj2 i v hv
              rw [show off' + (4 + ins.length) + j * 1 + i = off' + (4 + ins.length + j) * 1 + i by omega]
              exact this
          have k3 : IntKind.i64.wrap (4 + (ins.length : Int)) = 4 + (ins.length : Int) := IntWalk.i64_in _ (by omega)
          have k4 : (4 + (ins.length : Int)).toNat = 4 + ins.length := by omega
          have k5 : (0 : Int) ≤ 4 + (ins.length : Int) := by omega
          have k6 : 4 + (ins.length : Int) ≤ (L.length : Int) := by omega
          have k7 : (4 : Int) ≤ (c3 : Int) := by omega
          have k8 : 4 ≤ c3 := by omega
          have k9 : 4 + ins.length ≤ c3 := by omega
          have k10 : (L.length : Int) ≤ (c3 : Int) := by omega
          clear GSr GS OS PS
          go_wp2
          go_region_held3 (fun w' => w'.cell? ⟨w1.heap.size, 0, none⟩ = some (.int .i64 lv) ∧ w'.cell? ⟨w1.heap.size, 1, none⟩ = some (.int .i64 pl) ∧ w'.cell? ⟨w1.heap.size, 2, none⟩ = some (.int .i64 sc) ∧ w'.cell? ⟨w1.heap.size, 4, none⟩ = some (.slice A2 hs.length c2))
            (first | (with_reducible exact keep4 b0 b1 b2 b4 zr zr zr zr (below_drew (Below.refl _ _))) | (exact keep4 b0 b1 b2 b4 zr zr zr zr (by (repeat (first | (with_reducible assumption) | (with_reducible exact Below.refl _ _) | (with_reducible refine below_alloc ?_ _) | (with_reducible refine below_setCell ?_ ?_ _; (simp <;> omega)) | (with_reducible refine below_drew ?_) | (with_reducible refine below_drewN ?_ _) | (with_reducible refine below_after ?_ (by assumption)))))))
            (first
            | (go_at_call 53; refine (sameInts_same _ _ 4 4 _ _ [lv, pl, sc, (ins.length : Int)] _ (T4.below (by (repeat (first | (with_reducible assumption) | (with_reducible exact Below.refl _ _) | (with_reducible refine below_alloc ?_ _) | (with_reducible refine below_setCell ?_ ?_ _; (simp <;> omega)) | (with_reducible refine below_drew ?_) | (with_reducible refine below_drewN ?_ _) | (with_reducible refine below_after ?_ (by assumption)))))) (by refine Sl.drew ?_; exact Sl.lit _ _ _ _ _ 4 (by first | rfl | (simp; done)) rfl rfl) (by omega) (by omega)).mono ?_; rintro e w9 ⟨rfl, hb9⟩; clear T4)
            | (go_at_call 53; refine (sameInts_same _ _ _ _ _ _ hs _ (hSd.below (by (repeat (first | (with_reducible assumption) | (with_reducible exact Below.refl _ _) | (with_reducible refine below_alloc ?_ _) | (with_reducible refine below_setCell ?_ ?_ _; (simp <;> omega)) | (with_reducible refine below_drew ?_) | (with_reducible refine below_drewN ?_ _) | (with_reducible refine below_after ?_ (by assumption)))))) (OSr.below (by (repeat (first | (with_reducible assumption) | (with_reducible exact Below.refl _ _) | (with_reducible refine below_alloc ?_ _) | (with_reducible refine below_setCell ?_ ?_ _; (simp <;> omega)) | (with_reducible refine below_drew ?_) | (with_reducible refine below_drewN ?_ _) | (with_reducible refine below_after ?_ (by assumption)))))) (by omega) (by omega)).mono ?_; rintro e w10 ⟨rfl, hb10⟩))
          go_wp2
          go_ret
          exact ⟨rfl, by (repeat (first | (with_reducible assumption) | (with_reducible exact Below.refl _ _) | (with_reducible refine below_alloc ?_ _) | (with_reducible refine below_setCell ?_ ?_ _; (simp <;> omega)) | (with_reducible refine below_drew ?_) | (with_reducible refine below_drewN ?_ _) | (with_reducible refine below_after ?_ (by assumption))))⟩
    · have hne2 : ((repL ⟨lv, pl, sc, ins, hs, tag⟩).length : Int) = 0 := by omega
      have hne : (((repL ⟨lv, pl, sc, ins, hs, tag⟩).length : Int) == 0) = true := by rw [beq_iff_eq]; omega
      go_wp2_with fail
      refine (sameInts_same _ _ _ _ _ _ _ _ (G4.sl' encInt_len) (S4.sl' encInt_len) (by omega) (by omega)).mono ?_
      rintro e w5 ⟨rfl, hb5⟩
      have hd5 := below_after hd4 hb5
      go_wp2
      go_ret
      exact ⟨rfl, hd5⟩
end Go.Proofs.Ytkendoffknjpiaa
