/- The laws' own conversions, comparisons and marks at lists of ints; the sizes; the comparisons of the second laws. -/
import Derived.Test.YtmfhfebakdkkdaaConv
namespace Go.Proofs.Ytmfhfebakdkkdaa
open Go.ChangeShapes Go.WideShapes Go.ChangeAt Go.RowKit
theorem int_at {w : World} {b off k : Nat} {x : Int} (hc : ∀ j v, (encInt x)[j]? = some v → w.cell? ⟨b, off + k * 1 + j, none⟩ = some v) : w.cell? ⟨b, off + k, none⟩ = some (.int .i64 x) := by
  have := hc 0 _ rfl
  simpa using this
theorem Try.infoInt : (Try.prog.info? 3).map (fun i => (i.zero, i.size, i.bytes)) = some (some (.int .i64 0), 1, 8) := by kernel_rfl
set_option maxRecDepth 100000 in
theorem eqIntS_any (A A' : Option Addr) (n n' c c' : Nat) (l l' : List Int) (w : World) (h : Sl w 1 encInt A n l) (h' : Sl w 1 encInt A' n' l') (hn : n ≤ 2097152) (hn' : n' ≤ 2097152) :
    Calls Try.prog 60 #[.slice A n c, .slice A' n' c'] w fun e w' => e = .returned (.bool (eqL eqInt_ l l')) ∧ Below w.heap.size w w' := by
  by_cases hnn : n = n'
  · subst hnn
    go_enter Try.func60, Try.ntmps60
    go_wp2
    go_loopw [5] (fun i wr => ∃ k : Nat, k ≤ n ∧ i = .int .i64 k ∧ l.take k = l'.take k ∧ Below w.heap.size w wr) (fun i _ => n - (intOf i).toNat)
    case atStart => exact ⟨0, Nat.zero_le _, rfl, rfl, Below.refl _ _⟩
    case round =>
      obtain ⟨k, hk, rfl, ht, hb⟩ := hrel
      by_cases hlt : k < n
      · obtain ⟨b, off, x, rfl, hbl, hx, hc⟩ := (h.below hb).at_ hlt
        obtain ⟨b', off', x', rfl, hbl', hx', hc'⟩ := (h'.below hb).at_ hlt
        have q0 := int_at hc
        have r0 := int_at hc'
        have hlti : (k : Int) < (n : Int) := by omega
        have Ht := Lib.hid ht; clear ht
        have Hx := Lib.hid hx; clear hx
        have Hx' := Lib.hid hx'; clear hx'
        clear h h' hc hc'
        cases hq : (x != x') with
        | true =>
          go_wp2
          go_quiet (fail)
          go_wp2
          go_ret
          exact ⟨ret_bool (eqL_ne eqInt_iff Hx.out Hx'.out (by simpa [eqInt_] using hq)).symm, by repeat (first | exact hb | refine below_drewN ?_ _)⟩
        | false =>
          go_wp2
          go_quiet (fail)
          go_wp2
          go_roundw
          case rel => exact ⟨k + 1, by omega, by go_num, take_succ_eq Hx.out Hx'.out Ht.out (by simpa using hq), by repeat (first | exact hb | refine below_drewN ?_ _)⟩
          case measure => simp [intOf]; omega
      · have hkn : k = n := by omega
        have H := Lib.hid hkn; clear hkn
        go_wp2
        go_ret
        exact ⟨ret_bool (eqL_all eqInt_iff (by rw [← H.out]; exact ht) h.1 h'.1).symm, hb⟩
  · have hnb : ((n : Int) != (n' : Int)) = true := by rw [bne_iff_ne]; omega
    go_enter Try.func60, Try.ntmps60
    go_wp2
    go_ret
    exact ⟨ret_bool (eqL_len eqInt_iff (by rw [h.1, h'.1]; exact hnn)).symm, Below.refl _ _⟩
def mkInt (K : Int) : Int := K
set_option maxRecDepth 100000 in
theorem markIntS_any (A : Option Addr) (n c : Nat) (l : List Int) (B : Nat) (k : Int) (w : World) (h : Own w B 3 1 encInt (.slice A n c) l) (hn : n ≤ 2097152) (hk0 : 0 ≤ k) (hk1 : k ≤ 1152921504606846976) :
    Calls Try.prog 61 #[.slice A n c, .int .i64 k] w (RetPut B 3 1 encInt (.slice A n c) (marks mkInt 1 k n) (k + (1 * n : Nat)) w) := by
  have hlen := h.form
  obtain ⟨A', c', e, _, hA⟩ := hlen
  simp only [Value.slice.injEq] at e
  obtain ⟨rfl, rfl, rfl⟩ := e
  have hsl := h.sl encInt_len
  have h' : w.ownsRow B 3 1 (.slice A l.length c) l.length (l.flatMap encInt) := h
  have HM := Lib.hid h'.1
  clear h
  generalize l.flatMap encInt = M at h' HM
  generalize hln : l.length = n at *
  clear hln
  go_enter Try.func61, Try.ntmps61
  go_wp2
  go_loopw [1, 5] (fun kv i wr => ∃ j : Nat, j ≤ n ∧ i = .int .i64 j ∧ kv = .int .i64 (k + (1 * j : Nat)) ∧ wr.ownsRow B 3 1 (.slice A n c) n (cellsTo encInt 1 (marks mkInt 1 k n) M j) ∧ w.grownBy wr (Value.slice A n c).ownBlock) (fun _ i _ => n - (intOf i).toNat)
  case atStart => exact ⟨0, Nat.zero_le _, rfl, by simp, by rw [cellsTo_zero]; exact h', grownBy_refl _ _⟩
  case round =>
    obtain ⟨j, hj, rfl, rfl, ho1, hg⟩ := hrel
    by_cases hlt : j < n
    · obtain ⟨b, off, x, rfl, hbl, _, _⟩ := hsl.at_ hlt
      obtain ⟨hB, hBl, hoff, _⟩ := hA _ rfl
      simp only at hoff
      subst hoff
      obtain ⟨⟨v0, c0⟩, f0⟩ := own_slot ho1 hlt 0 (by omega)
      simp only [Nat.add_zero, Nat.mul_one] at c0 f0
      have hK : ∃ K : Int, K = k + (1 * j : Nat) := ⟨_, rfl⟩
      obtain ⟨K, hK⟩ := hK
      have HK := Lib.hid hK
      have hK0 : 0 ≤ K := by omega
      have hK1 : K ≤ 1152921504613138432 := by omega
      rw [← hK]
      clear hK h' hA hsl
      go_wp2
      go_roundw
      case rel =>
        have hp := ownsRow_putAll (encInt (mkInt K)) _ (j * 1) wr ho1
        rw [cellsTo_succ (x := mkInt K) encInt_len (by rw [marks_len]; exact HM.out) (by rw [marks_at _ _ _ hlt, ← HK.out])] at hp
        simp only [Nat.mul_one] at hp
        exact ⟨j + 1, by omega, by go_num, by rw [HK.out]; exact congrArg (Value.int .i64) (by omega), hp.1, grownBy_trans hg hp.2⟩
      case measure => simp [intOf]; omega
    · have hjn : j = n := by omega
      have H := Lib.hid hjn; clear hjn
      clear h' hA hsl
      go_wp2
      go_ret
      refine ⟨by rw [H.out]; rfl, ?_, hg⟩
      have hx := cellsTo_all (enc := encInt) (sz := 1) (l := marks mkInt 1 k n) (m := M) (by rw [marks_len]; exact HM.out)
      rw [marks_len] at hx
      rw [H.out, hx] at ho1
      unfold Own
      rw [marks_len]
      exact ho1
set_option maxRecDepth 100000 in
theorem heldIntS_any (A : Option Addr) (n c : Nat) (k : Int) (w : World) (h : Sl w 1 encInt A n (marks mkInt 1 k n)) (hn : n ≤ 2097152) (hk0 : 0 ≤ k) (hk1 : k ≤ 1152921504606846976) :
    Calls Try.prog 62 #[.slice A n c, .int .i64 k] w fun e w' => e = .returned (.int .i64 (k + (1 * n : Nat))) ∧ w = w' := by
  go_enter Try.func62, Try.ntmps62
  go_wp2
  go_loop [1, 5] (fun kv i => ∃ j : Nat, j ≤ n ∧ i = .int .i64 j ∧ kv = .int .i64 (k + (1 * j : Nat))) (fun _ i => n - (intOf i).toNat)
  case atStart => exact ⟨0, Nat.zero_le _, rfl, by simp⟩
  case round =>
    obtain ⟨j, hj, rfl, rfl⟩ := hrel
    by_cases hlt : j < n
    · obtain ⟨b, off, x, rfl, hbl, hx, hc⟩ := h.at_ hlt
      rw [marks_at _ _ _ hlt] at hx
      have hK : ∃ K : Int, K = k + (1 * j : Nat) := ⟨_, rfl⟩
      obtain ⟨K, hK⟩ := hK
      have HK := Lib.hid hK
      have hK0 : 0 ≤ K := by omega
      have hK1 : K ≤ 1152921504613138432 := by omega
      rw [← hK] at hx ⊢
      clear hK h
      simp only [Option.some.injEq, mkInt] at hx
      subst hx
      have q0 := int_at hc
      clear hc
      go_wp2
      go_round
      case rel => exact ⟨j + 1, by omega, by go_num, by rw [HK.out]; exact congrArg (Value.int .i64) (by omega)⟩
      case measure => simp [intOf]; omega
    · have hjn : j = n := by omega
      have H := Lib.hid hjn; clear hjn
      go_wp2
      go_ret
      exact ⟨by rw [H.out]; exact ret_int (by omega), rfl⟩
theorem l6In_any (n lo hi : Int) (w : World) : Calls Try.prog 95 #[.int .i64 n, .int .i64 lo, .int .i64 hi] w fun e w' => e = .returned (.bool (decide (lo ≤ n) && decide (n ≤ hi))) ∧ w = w' := by
  go_enter Try.func95, Try.ntmps95
  by_cases h1 : lo ≤ n <;> by_cases h2 : n ≤ hi
  all_goals
    go_wp2
    go_ret
    exact ⟨by simp [h1, h2], rfl⟩
theorem inRange_any (n lo hi : Int) (w : World) : Calls Try.prog 94 #[.int .i64 n, .int .i64 lo, .int .i64 hi] w fun e w' => e = .returned (.bool (decide (lo ≤ n) && decide (n ≤ hi))) ∧ w = w' := by
  go_enter Try.func94, Try.ntmps94
  by_cases h1 : lo ≤ n <;> by_cases h2 : n ≤ hi
  all_goals
    go_wp2
    go_ret
    exact ⟨by simp [h1, h2], rfl⟩
theorem l6In_yes (n lo hi : Int) (w : World) (h : lo ≤ n ∧ n ≤ hi) : Calls Try.prog 95 #[.int .i64 n, .int .i64 lo, .int .i64 hi] w fun e w' => e = .returned (.bool true) ∧ w = w' :=
  (l6In_any n lo hi w).mono fun e w' ⟨h1, h2⟩ => ⟨h1.trans (ret_bool (by simp [h.1, h.2])), h2⟩
theorem l6In_no (n lo hi : Int) (w : World) (h : ¬(lo ≤ n ∧ n ≤ hi)) : Calls Try.prog 95 #[.int .i64 n, .int .i64 lo, .int .i64 hi] w fun e w' => e = .returned (.bool false) ∧ w = w' :=
  (l6In_any n lo hi w).mono fun e w' ⟨h1, h2⟩ => ⟨h1.trans (ret_bool (by simp; omega)), h2⟩
theorem inRange_yes (n lo hi : Int) (w : World) (h : lo ≤ n ∧ n ≤ hi) : Calls Try.prog 94 #[.int .i64 n, .int .i64 lo, .int .i64 hi] w fun e w' => e = .returned (.bool true) ∧ w = w' :=
  (inRange_any n lo hi w).mono fun e w' ⟨h1, h2⟩ => ⟨h1.trans (ret_bool (by simp [h.1, h.2])), h2⟩
theorem inRange_no (n lo hi : Int) (w : World) (h : ¬(lo ≤ n ∧ n ≤ hi)) : Calls Try.prog 94 #[.int .i64 n, .int .i64 lo, .int .i64 hi] w fun e w' => e = .returned (.bool false) ∧ w = w' :=
  (inRange_any n lo hi w).mono fun e w' ⟨h1, h2⟩ => ⟨h1.trans (ret_bool (by simp; omega)), h2⟩
def szL (n : Nat) (k : Int) : Int := if k - n < 0 then -1 else k - n
theorem szL_ok {n : Nat} (h : ¬ szL n 1048576 < 0) : n ≤ 1048576 := by
  unfold szL at h; split at h <;> omega
theorem szInputS_any (A : Option Addr) (n c : Nat) (k : Int) (w : World) (hk0 : -1 ≤ k) (hk1 : k ≤ 2097152) (hn : n ≤ 9223372036854775807) :
    Calls Try.prog 32 #[.slice A n c, .int .i64 k] w fun e w' => e = .returned (.int .i64 (szL n k)) ∧ w = w' := by
  go_enter Try.func32, Try.ntmps32
  by_cases h : k - n < 0
  all_goals
    go_wp2
    go_ret
    exact ⟨ret_int (by unfold szL; split <;> omega), rfl⟩
end Go.Proofs.Ytmfhfebakdkkdaa
