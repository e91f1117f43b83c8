/- The laws' own conversions, comparisons and marks: each by its contract. Written by gen_conv.py. -/
import Derived.Test.YtmfhfebakdkkdaaPlain
import Derived.Outline
import Derived.StillTailTactics
import Derived.BigQuiet
import Derived.Deep.QuietTactic
namespace Go.Proofs.Ytmfhfebakdkkdaa
open Go.ChangeShapes Go.WideShapes Go.ChangeAt Go.RowKit
theorem toInput_any (x : Inp) (w : World) : Calls Try.prog 87 #[.agg #[.int .i64 x.s, .int .i64 x.p, .bool x.z]] w fun e w' => e = .returned (.agg #[.int .i64 x.s, .int .i64 x.p, .bool x.z]) ∧ Below w.heap.size w w' := by
  go_enter Try.func87, Try.ntmps87
  go_wp2
  exact bodyPost_ret (v := .agg #[.int .i64 x.s, .int .i64 x.p, .bool x.z]) (by simp [results, Try.results87, go_sem]) rfl ⟨rfl, by repeat (first | exact Below.refl _ _ | refine Below.alloc ?_ (by simp <;> omega) _)⟩

theorem eqInput_any (x y : Inp) (w : World) : Calls Try.prog 91 #[.agg #[.int .i64 x.s, .int .i64 x.p, .bool x.z], .agg #[.int .i64 y.s, .int .i64 y.p, .bool y.z]] w fun e w' => e = .returned (.bool (eqInp x y)) ∧ Below w.heap.size w w' := by
  go_enter Try.func91, Try.ntmps91
  go_wp2
  all_goals (go_ret; refine ⟨?_, by repeat (first | exact Below.refl _ _ | refine Below.alloc ?_ (by simp <;> omega) _)⟩; simp_all [eqInp])

set_option maxRecDepth 100000 in
theorem eqInputS_any (A A' : Option Addr) (n n' c c' : Nat) (l l' : List Inp) (w : World) (h : Sl w 3 encInp A n l) (h' : Sl w 3 encInp A' n' l') (hn : n ≤ 2097152) (hn' : n' ≤ 2097152) :
    Calls Try.prog 38 #[.slice A n c, .slice A' n' c'] w fun e w' => e = .returned (.bool (eqL eqInp l l')) ∧ Below w.heap.size w w' := by
  by_cases hnn : n = n'
  · subst hnn
    go_enter Try.func38, Try.ntmps38
    go_wp2
    go_loopw [5] (fun i wr => ∃ k : Nat, k ≤ n ∧ i = .int .i64 k ∧ l.take k = l'.take k ∧ Below w.heap.size w wr) (fun i _ => n - (intOf i).toNat)
    case atStart => exact ⟨0, Nat.zero_le _, rfl, rfl, Below.refl _ _⟩
    case round =>
      obtain ⟨k, hk, rfl, ht, hb⟩ := hrel
      by_cases hlt : k < n
      · obtain ⟨b, off, x, rfl, hbl, hx, hc⟩ := (h.below hb).at_ hlt
        obtain ⟨b', off', x', rfl, hbl', hx', hc'⟩ := (h'.below hb).at_ hlt
        have q0 : wr.cell? ⟨b, off + k * 3, none⟩ = some (.int .i64 x.s) := hc 0 _ rfl
        have q1 : wr.cell? ⟨b, off + k * 3 + 1, none⟩ = some (.int .i64 x.p) := hc 1 _ rfl
        have q2 : wr.cell? ⟨b, off + k * 3 + 2, none⟩ = some (.bool x.z) := hc 2 _ rfl
        have r0 : wr.cell? ⟨b', off' + k * 3, none⟩ = some (.int .i64 x'.s) := hc' 0 _ rfl
        have r1 : wr.cell? ⟨b', off' + k * 3 + 1, none⟩ = some (.int .i64 x'.p) := hc' 1 _ rfl
        have r2 : wr.cell? ⟨b', off' + k * 3 + 2, none⟩ = some (.bool x'.z) := hc' 2 _ rfl
        have Ht := Lib.hid ht; clear ht
        have Hx := Lib.hid hx; clear hx
        have Hx' := Lib.hid hx'; clear hx'
        clear h h' hc hc'
        go_wp2
        go_still_tail 8, (by kernel_rfl)
        change wpList _ _ _ _ _ wr.drew
        have hb2 : Below w.heap.size w wr.drew := hb.drew
        generalize wr.drew = w2 at hb2
        go_wp2_with (go_at_call 91; refine (eqInput_any _ _ _).mono ?_; rintro e w' ⟨rfl, hb1⟩)
        · have ht : (!eqInp x x') = true := by assumption
          go_ret
          exact ⟨ret_bool (eqL_ne eqInp_iff Hx.out Hx'.out (by simpa using ht)).symm, hb2.trans (hb1.mono hb2.size)⟩
        · have ht : (!eqInp x x') = false := by assumption
          go_roundw
          case rel => exact ⟨k + 1, by omega, by go_num, take_succ_eq Hx.out Hx'.out Ht.out ((eqInp_iff x x').1 (by simpa using ht)), hb2.trans (hb1.mono hb2.size)⟩
          case measure => simp [intOf]; omega
      · have hkn : k = n := by omega
        have H := Lib.hid hkn; clear hkn
        go_wp2
        go_ret
        exact ⟨ret_bool (eqL_all eqInp_iff (by rw [← H.out]; exact ht) h.1 h'.1).symm, hb⟩
  · have hnb : ((n : Int) != (n' : Int)) = true := by rw [bne_iff_ne]; omega
    go_enter Try.func38, Try.ntmps38
    go_wp2
    go_ret
    exact ⟨ret_bool (eqL_len eqInp_iff (by rw [h.1, h'.1]; exact hnn)).symm, Below.refl _ _⟩

theorem Try.infoInput : (Try.prog.info? 33).map (fun i => (i.zero, i.size, i.bytes)) = some (some (.agg #[.int .i64 0, .int .i64 0, .bool false]), 3, 24) := by kernel_rfl
set_option maxRecDepth 100000 in
theorem toInputS_any (A : Option Addr) (n c : Nat) (l : List Inp) (w : World) (h : Sl w 3 encInp A n l) (hn : n ≤ 2097152) :
    Calls Try.prog 35 #[.slice A n c] w (RetOwn 33 3 encInp l w) := by
  obtain rfl := h.len
  obtain ⟨i0, hi, hz0, hz1, hz2⟩ := info_parts Try.infoInput
  go_enter Try.func35, Try.ntmps35
  go_wp2_with (at_make; refine wpList_make_full _ rfl _ _ 54 rfl w.heap.size 33 i0 (.agg #[.int .i64 0, .int .i64 0, .bool false]) 3 Try.underlying54 hi hz0 hz1 _ _ _ _ l.length rfl rfl rfl rfl ?c1 ?c2 ?c3 ?_)
  case c1 => rw [hz2]; omega
  case c2 => unfold maxLen; omega
  case c3 => simp
  · intro w1 ho hg
    have hb0 : Below w.heap.size w w1 := below_of_grown hg (Nat.le_refl _) (by intro k e; cases e)
    generalize hM : (madeCells _ _).toList = M at ho
    have HM := Lib.hid ho.1
    clear hM hg
    go_wp2
    go_loopw [4] (fun i wr => ∃ k : Nat, k ≤ l.length ∧ i = .int .i64 k ∧ wr.ownsRow w.heap.size 33 3 (.slice (some ⟨w.heap.size, 0, none⟩) l.length l.length) l.length (cellsTo encInp 3 l M k) ∧ Below w.heap.size w wr) (fun i _ => l.length - (intOf i).toNat)
    case atStart => exact ⟨0, Nat.zero_le _, rfl, by rw [cellsTo_zero]; exact ho, hb0⟩
    case round =>
      obtain ⟨k, hk, rfl, ho1, hb⟩ := hrel
      by_cases hlt : k < l.length
      · obtain ⟨b, off, x, rfl, hbl, hx, hc⟩ := (h.below hb).at_ hlt
        have q0 : wr.cell? ⟨b, off + k * 3, none⟩ = some (.int .i64 x.s) := hc 0 _ rfl
        have q1 : wr.cell? ⟨b, off + k * 3 + 1, none⟩ = some (.int .i64 x.p) := hc 1 _ rfl
        have q2 : wr.cell? ⟨b, off + k * 3 + 2, none⟩ = some (.bool x.z) := hc 2 _ rfl
        have Hx := Lib.hid hx; clear hx
        clear h hc ho hb0
        go_wp2_with (go_at_call 87; refine (toInput_any _ _).mono ?_; rintro e w' ⟨rfl, hb1⟩; have ho2 := ho1.kept (row := none) (grown_of_below hb1) (.inr (by simp [Value.ownBlock])); obtain ⟨⟨v0, c0⟩, f0⟩ := own_slot ho2 hlt 0 (by omega); obtain ⟨⟨v1, c1⟩, f1⟩ := own_slot ho2 hlt 1 (by omega); obtain ⟨⟨v2, c2⟩, f2⟩ := own_slot ho2 hlt 2 (by omega); simp only [Nat.add_zero] at c0 f0)
        go_roundw
        case rel =>
          have hp := ownsRow_putAll (encInp x) _ (k * 3) w' ho2
          rw [cellsTo_succ encInp_len HM.out Hx.out] at hp
          exact ⟨k + 1, by omega, by go_num, hp.1, ((((hb.trans (hb1.mono hb.size)).setCell (Nat.le_refl _) _).setCell (Nat.le_refl _) _).setCell (Nat.le_refl _) _)⟩
        case measure => simp [intOf]; omega
      · have hkn : k = l.length := by omega
        have H := Lib.hid hkn; clear hkn
        go_wp2
        go_ret
        exact ⟨_, _, rfl, Nat.le_refl _, by rw [H.out, cellsTo_all HM.out] at ho1; exact ho1, hb⟩

set_option maxRecDepth 100000 in
theorem markInputS_any (A : Option Addr) (n c : Nat) (l : List Inp) (B : Nat) (k : Int) (w : World) (h : Own w B 33 3 encInp (.slice A n c) l) (hn : n ≤ 2097152) (hk0 : 0 ≤ k) (hk1 : k ≤ 1152921504606846976) :
    Calls Try.prog 51 #[.slice A n c, .int .i64 k] w (RetPut B 33 3 encInp (.slice A n c) (marks mkInp 3 k n) (k + (3 * n : Nat)) w) := by
  have hlen := h.form
  obtain ⟨A', c', e, _, hA⟩ := hlen
  simp only [Value.slice.injEq] at e
  obtain ⟨rfl, rfl, rfl⟩ := e
  have hsl := h.sl encInp_len
  have h' : w.ownsRow B 33 3 (.slice A l.length c) l.length (l.flatMap encInp) := h
  have HM := Lib.hid h'.1
  clear h
  generalize l.flatMap encInp = M at h' HM
  generalize hln : l.length = n at *
  clear hln
  go_enter Try.func51, Try.ntmps51
  go_wp2
  go_loopw [1, 5] (fun kv i wr => ∃ j : Nat, j ≤ n ∧ i = .int .i64 j ∧ kv = .int .i64 (k + (3 * j : Nat)) ∧ wr.ownsRow B 33 3 (.slice A n c) n (cellsTo encInp 3 (marks mkInp 3 k n) M j) ∧ w.grownBy wr (Value.slice A n c).ownBlock) (fun _ i _ => n - (intOf i).toNat)
  case atStart => exact ⟨0, Nat.zero_le _, rfl, by simp, by rw [cellsTo_zero]; exact h', grownBy_refl _ _⟩
  case round =>
    obtain ⟨j, hj, rfl, rfl, ho1, hg⟩ := hrel
    by_cases hlt : j < n
    · obtain ⟨b, off, x, rfl, hbl, _, _⟩ := hsl.at_ hlt
      obtain ⟨hB, hBl, hoff, _⟩ := hA _ rfl
      simp only at hoff
      subst hoff
      obtain ⟨⟨v0, c0⟩, f0⟩ := own_slot ho1 hlt 0 (by omega); obtain ⟨⟨v1, c1⟩, f1⟩ := own_slot ho1 hlt 1 (by omega); obtain ⟨⟨v2, c2⟩, f2⟩ := own_slot ho1 hlt 2 (by omega)
      simp only [Nat.add_zero] at c0 f0
      have hK : ∃ K : Int, K = k + (3 * j : Nat) := ⟨_, rfl⟩
      obtain ⟨K, hK⟩ := hK
      have HK := Lib.hid hK
      have hK0 : 0 ≤ K := by omega
      have hK1 : K ≤ 1152921504613138432 := by omega
      rw [← hK]
      clear hK h' hA hsl
      go_wp2
      go_roundw
      case rel =>
        have hp := ownsRow_putAll (encInp (mkInp K)) _ (j * 3) wr ho1
        rw [cellsTo_succ (x := mkInp K) encInp_len (by rw [marks_len]; exact HM.out) (by rw [marks_at _ _ _ hlt, ← HK.out])] at hp
        exact ⟨j + 1, by omega, by go_num, by rw [HK.out]; exact congrArg (Value.int .i64) (by omega), hp.1, grownBy_trans hg hp.2⟩
      case measure => simp [intOf]; omega
    · have hjn : j = n := by omega
      have H := Lib.hid hjn; clear hjn
      clear h' hA hsl
      go_wp2
      go_ret
      refine ⟨by rw [H.out]; rfl, ?_, hg⟩
      have hx := cellsTo_all (enc := encInp) (sz := 3) (l := marks mkInp 3 k n) (m := M) (by rw [marks_len]; exact HM.out)
      rw [marks_len] at hx
      rw [H.out, hx] at ho1
      unfold Own
      rw [marks_len]
      exact ho1

end Go.Proofs.Ytmfhfebakdkkdaa
