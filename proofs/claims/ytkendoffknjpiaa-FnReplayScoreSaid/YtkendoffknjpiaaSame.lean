/- The laws' comparisons of lists: sameInts, sameParts, sameInputs. Printed by gen/same.py. -/
import Derived.Test.YtkendoffknjpiaaConvI
import Derived.Deep.DeepMust
namespace Go.Proofs.Ytkendoffknjpiaa
open Go.ChangeShapes Go.WideShapes Go.ChangeAt Go.RowKit
set_option maxRecDepth 100000 in
theorem sameInts_any (A A' : Option Addr) (n n' c c' : Nat) (l l' : List Int) (w : World) (h : Sl w 1 encInt A n l) (h' : Sl w 1 encInt A' n' l') (hn : n ≤ 2097152) (hn' : n' ≤ 2097152) :
    Calls Try.prog 53 #[.slice A n c, .slice A' n' c'] w fun e w' => e = .returned (.bool (eqL eqInt_ l l')) ∧ Below w.heap.size w w' := by
  by_cases hnn : n = n'
  · subst hnn
    go_enter Try.func53, Try.ntmps53
    go_wp2
    go_loopw [5] (fun i wr => ∃ k : Nat, k ≤ n ∧ i = .int .i64 k ∧ l.take k = l'.take k ∧ Below w.heap.size w wr) (fun i _ => n - (intOf i).toNat)
    case atStart => exact ⟨0, Nat.zero_le _, rfl, rfl, Below.refl _ _⟩
    case round =>
      obtain ⟨k, hk, rfl, ht, hb⟩ := hrel
      by_cases hlt : k < n
      · obtain ⟨b, off, x, rfl, hbl, hx, hc⟩ := (h.below hb).at_ hlt
        obtain ⟨b', off', x', rfl, hbl', hx', hc'⟩ := (h'.below hb).at_ hlt
        have q0 := int_at hc
        have r0 := int_at hc'
        have hlti : (k : Int) < (n : Int) := by omega
        have Ht := Lib.hid ht; clear ht
        have Hx := Lib.hid hx; clear hx
        have Hx' := Lib.hid hx'; clear hx'
        clear h h' hc hc'
        cases hq : (x != x') with
        | true =>
          go_wp2
          go_quiet (fail)
          go_wp2
          go_ret
          exact ⟨ret_bool (eqL_ne eqInt_iff Hx.out Hx'.out (by simpa [eqInt_] using hq)).symm, by repeat (first | exact hb | refine below_drewN ?_ _)⟩
        | false =>
          go_wp2
          go_quiet (fail)
          go_wp2
          go_roundw
          case rel => exact ⟨k + 1, by omega, by go_num, take_succ_eq Hx.out Hx'.out Ht.out (by simpa using hq), by repeat (first | exact hb | refine below_drewN ?_ _)⟩
          case measure => simp [intOf]; omega
      · have hkn : k = n := by omega
        have H := Lib.hid hkn; clear hkn
        go_wp2
        go_ret
        exact ⟨ret_bool (eqL_all eqInt_iff (by rw [← H.out]; exact ht) h.1 h'.1).symm, hb⟩
  · have hnb : ((n : Int) != (n' : Int)) = true := by rw [bne_iff_ne]; omega
    go_enter Try.func53, Try.ntmps53
    go_wp2
    go_ret
    exact ⟨ret_bool (eqL_len eqInt_iff (by rw [h.1, h'.1]; exact hnn)).symm, Below.refl _ _⟩
set_option maxRecDepth 100000 in
theorem sameParts_any (A A' : Option Addr) (n n' c c' : Nat) (l l' : List Prt) (w : World) (h : Sl w 2 encPrt A n l) (h' : Sl w 2 encPrt A' n' l') (hn : n ≤ 2097152) (hn' : n' ≤ 2097152) :
    Calls Try.prog 47 #[.slice A n c, .slice A' n' c'] w fun e w' => e = .returned (.bool (eqL eqPrt l l')) ∧ Below w.heap.size w w' := by
  by_cases hnn : n = n'
  · subst hnn
    go_enter Try.func47, Try.ntmps47
    go_wp2
    go_loopw [5] (fun i wr => ∃ k : Nat, k ≤ n ∧ i = .int .i64 k ∧ l.take k = l'.take k ∧ Below w.heap.size w wr) (fun i _ => n - (intOf i).toNat)
    case atStart => exact ⟨0, Nat.zero_le _, rfl, rfl, Below.refl _ _⟩
    case round =>
      obtain ⟨k, hk, rfl, ht, hb⟩ := hrel
      by_cases hlt : k < n
      · obtain ⟨b, off, x, rfl, hbl, hx, hc⟩ := (h.below hb).at_ hlt
        obtain ⟨b', off', x', rfl, hbl', hx', hc'⟩ := (h'.below hb).at_ hlt
        have q0 : wr.cell? ⟨b, off + k * 2, none⟩ = some (.int .i64 x.c) := hc 0 _ rfl
        have r0 : wr.cell? ⟨b', off' + k * 2, none⟩ = some (.int .i64 x'.c) := hc' 0 _ rfl
        have q1 : wr.cell? ⟨b, off + k * 2 + 1, none⟩ = some (.int .i64 x.m) := hc 1 _ rfl
        have r1 : wr.cell? ⟨b', off' + k * 2 + 1, none⟩ = some (.int .i64 x'.m) := hc' 1 _ rfl
        have hlti : (k : Int) < (n : Int) := by omega
        have Ht := Lib.hid ht; clear ht
        have Hx := Lib.hid hx; clear hx
        have Hx' := Lib.hid hx'; clear hx'
        clear h h' hc hc'
        go_wp2
        go_still_tail 8, (by kernel_rfl)
        change wpList _ _ _ _ _ wr.drew
        have hb2 : Below w.heap.size w wr.drew := hb.drew
        generalize wr.drew = w2 at hb2
        go_wp2
        case roundEnd =>
          have hqq : eqPrt x x' = true := by simp [eqPrt, *]
          go_roundw
          case rel => exact ⟨k + 1, by omega, by go_num, take_succ_eq Hx.out Hx'.out Ht.out ((eqPrt_iff x x').1 hqq), hb2⟩
          case measure => simp [intOf]; omega
        all_goals (have hqq : eqPrt x x' = false := by simp [eqPrt, *])
        all_goals (go_ret; exact ⟨ret_bool (eqL_ne eqPrt_iff Hx.out Hx'.out hqq).symm, hb2⟩)
      · have hkn : k = n := by omega
        have H := Lib.hid hkn; clear hkn
        go_wp2
        go_ret
        exact ⟨ret_bool (eqL_all eqPrt_iff (by rw [← H.out]; exact ht) h.1 h'.1).symm, hb⟩
  · have hnb : ((n : Int) != (n' : Int)) = true := by rw [bne_iff_ne]; omega
    go_enter Try.func47, Try.ntmps47
    go_wp2
    go_ret
    exact ⟨ret_bool (eqL_len eqPrt_iff (by rw [h.1, h'.1]; exact hnn)).symm, Below.refl _ _⟩
set_option maxRecDepth 100000 in
theorem sameInputs_any (A A' : Option Addr) (n n' c c' : Nat) (l l' : List Inp) (w : World) (h : Sl w 3 encInp A n l) (h' : Sl w 3 encInp A' n' l') (hn : n ≤ 2097152) (hn' : n' ≤ 2097152) :
    Calls Try.prog 50 #[.slice A n c, .slice A' n' c'] w fun e w' => e = .returned (.bool (eqL eqInp l l')) ∧ Below w.heap.size w w' := by
  by_cases hnn : n = n'
  · subst hnn
    go_enter Try.func50, Try.ntmps50
    go_wp2
    go_loopw [5] (fun i wr => ∃ k : Nat, k ≤ n ∧ i = .int .i64 k ∧ l.take k = l'.take k ∧ Below w.heap.size w wr) (fun i _ => n - (intOf i).toNat)
    case atStart => exact ⟨0, Nat.zero_le _, rfl, rfl, Below.refl _ _⟩
    case round =>
      obtain ⟨k, hk, rfl, ht, hb⟩ := hrel
      by_cases hlt : k < n
      · obtain ⟨b, off, x, rfl, hbl, hx, hc⟩ := (h.below hb).at_ hlt
        obtain ⟨b', off', x', rfl, hbl', hx', hc'⟩ := (h'.below hb).at_ hlt
        have q0 : wr.cell? ⟨b, off + k * 3, none⟩ = some (.int .i64 x.s) := hc 0 _ rfl
        have r0 : wr.cell? ⟨b', off' + k * 3, none⟩ = some (.int .i64 x'.s) := hc' 0 _ rfl
        have q1 : wr.cell? ⟨b, off + k * 3 + 1, none⟩ = some (.int .i64 x.p) := hc 1 _ rfl
        have r1 : wr.cell? ⟨b', off' + k * 3 + 1, none⟩ = some (.int .i64 x'.p) := hc' 1 _ rfl
        have q2 : wr.cell? ⟨b, off + k * 3 + 2, none⟩ = some (.bool x.z) := hc 2 _ rfl
        have r2 : wr.cell? ⟨b', off' + k * 3 + 2, none⟩ = some (.bool x'.z) := hc' 2 _ rfl
        have hlti : (k : Int) < (n : Int) := by omega
        have Ht := Lib.hid ht; clear ht
        have Hx := Lib.hid hx; clear hx
        have Hx' := Lib.hid hx'; clear hx'
        clear h h' hc hc'
        go_wp2
        go_still_tail 8, (by kernel_rfl)
        change wpList _ _ _ _ _ wr.drew
        have hb2 : Below w.heap.size w wr.drew := hb.drew
        generalize wr.drew = w2 at hb2
        go_wp2
        case roundEnd =>
          have hqq : eqInp x x' = true := by simp [eqInp, *]
          go_roundw
          case rel => exact ⟨k + 1, by omega, by go_num, take_succ_eq Hx.out Hx'.out Ht.out ((eqInp_iff x x').1 hqq), hb2⟩
          case measure => simp [intOf]; omega
        all_goals (have hqq : eqInp x x' = false := by simp [eqInp, *])
        all_goals (go_ret; exact ⟨ret_bool (eqL_ne eqInp_iff Hx.out Hx'.out hqq).symm, hb2⟩)
      · have hkn : k = n := by omega
        have H := Lib.hid hkn; clear hkn
        go_wp2
        go_ret
        exact ⟨ret_bool (eqL_all eqInp_iff (by rw [← H.out]; exact ht) h.1 h'.1).symm, hb⟩
  · have hnb : ((n : Int) != (n' : Int)) = true := by rw [bne_iff_ne]; omega
    go_enter Try.func50, Try.ntmps50
    go_wp2
    go_ret
    exact ⟨ret_bool (eqL_len eqInp_iff (by rw [h.1, h'.1]; exact hnn)).symm, Below.refl _ _⟩
end Go.Proofs.Ytkendoffknjpiaa
