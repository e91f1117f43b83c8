/- Texts of replays, the reference: numbers in decimal. (Seat D) -/
import Derived.Test.YtdpoicfciogfnaaDoorEnc
import Derived.Laws.IdiomStrings
import Derived.Laws.BitsLemmas
import Derived.Deep.RegionHeld3
namespace Go.Proofs.YtdpoicfciogfnaaDoor
open Go.ChangeShapes Go.WideShapes Go.ChangeAt Go.RowKit
/-- A slice of one byte as a string. -/
theorem conv_one (W : World) (g m : Nat) (hm : m < 256) (hc : W.cell? ⟨g, 0, none⟩ = some (.int .u8 m)) : (convert 34 9 (.slice (some ⟨g, 0, none⟩) 1 1)).run Tryd.prog W = .ok (.string (st [UInt8.ofNat m])) W :=
  run_convert_bytes_back W 34 9 5 ⟨g, 0, none⟩ 1 [UInt8.ofNat m] Tryd.underlying34 Tryd.underlying5 Tryd.underlying9 fun j hj => by
    obtain rfl : j = 0 := by simpa using hj
    rw [show (⟨g, 0, none⟩ : Addr).add 0 = ⟨g, 0, none⟩ from rfl, hc]
    simp
    omega
def hidCv (o : Operand) : Op := Op.convert 34 9 o
attribute [local go_sem] hidCv
set_option maxRecDepth 100000 in
set_option maxHeartbeats 2000000 in
theorem l6Dec_any : ∀ (n : Nat) (w : World), n ≤ 9223372036854775807 → Calls Tryd.prog 63 #[.int .i64 n] w fun e w' => e = .returned (.string (st (Lib.decDigits n))) ∧ Below w.heap.size w w' := by
  intro n
  induction n using Nat.strongRecOn with
  | _ n ih =>
    intro w hn
    rw [Lib.decDigits]
    by_cases h : n < 10
    · rw [dif_pos h]
      have h1 := conv_one (w.alloc (.cells #[.int .u8 (48 + (n : Int))] 5)) w.heap.size (48 + n) (by omega) ((Bk.cell (kN w _ _ rfl) 0).trans (by simp))
      generalize [UInt8.ofNat (48 + n)] = D at h1 ⊢
      go_enter Tryd.func63, Tryd.ntmps63
      go_wp2
      go_ret
      exact ⟨rfl, by (with_reducible repeat first | assumption | exact bl0 _ _ | refine blA ?_ _ | (refine blS ?_ ?_ _; (simp <;> omega)) | refine blD ?_ | refine blN ?_ _ | refine blF ?_ ‹_›)⟩
    · rw [dif_neg h]
      obtain ⟨q, hq⟩ : ∃ q, n / 10 = q := ⟨_, rfl⟩
      obtain ⟨m, hm⟩ : ∃ m, n % 10 = m := ⟨_, rfl⟩
      have hm10 : m < 10 := by omega
      have hd1 : (n : Int) / 10 = (q : Int) := by omega
      have hd2 : (n : Int) % 10 = (m : Int) := by omega
      have hql : (Lib.decDigits q).length ≤ 21 := by
        have := itoa_63 (y := (q : Int)) ⟨by omega, by omega⟩
        rwa [Lib.itoa_nonneg] at this
      have ih2 := Lib.hid (ih q (by omega))
      have hqn : q ≤ 9223372036854775807 := by omega
      rw [hq, hm]
      have h1 := fun W => conv_one W w.heap.size (48 + m) (by omega)
      have h2 := fun (W : World) => conv_one (W.alloc (.cells #[.int .u8 (48 + (m : Int))] 5)) W.heap.size (48 + m) (by omega) ((Bk.cell (kN W _ _ rfl) 0).trans (by simp))
      have hA := h1 (w.alloc (.cells #[.int .u8 (48 + (m : Int))] 5)).drew ((Bk.cell (kD (kN w _ _ rfl)) 0).trans (by simp))
      have hDl : [UInt8.ofNat (48 + m)].length = 1 := rfl
      generalize [UInt8.ofNat (48 + m)] = D at h1 h2 hA hDl ⊢
      have hC := fun W => add_st (P := Tryd.prog) (a := Lib.decDigits q) (b := D) (c := Lib.decDigits q ++ D) W (by omega) rfl
      generalize Lib.decDigits q ++ D = R at hC ⊢
      have hw1 : IntKind.i64.wrap (q : Int) = (q : Int) := by rw [IntKind.wrap_i64]; omega
      have hw2 : (n : Int).tmod 10 = (m : Int) := by rw [Int.tmod_eq_emod_of_nonneg (by omega)]; exact hd2
      have hw3 : IntKind.i64.wrap (48 + (m : Int)) = 48 + (m : Int) := by rw [IntKind.wrap_i64]; omega
      have hw4 : IntKind.u8.wrap (48 + (m : Int)) = 48 + (m : Int) := by rw [IntKind.wrap_u8]; omega
      have H1 := Lib.hid h1
      clear ih hq hm h1
      go_enter Tryd.func63, Tryd.ntmps63
      go_wp2
      rw [show Op.convert 34 9 (.tmp 25) = hidCv (.tmp 25) from rfl]
      go_region_held3 (fun _ => True) (trivial) ((go_at_call 63; (try rw [hw1]); refine (ih2.out _ hqn).mono ?_; rintro e w1 ⟨rfl, hb1⟩; have hB := hb1; first | (have hB1 := H1.out w1 ((Bk.cell (Bk.later (kD (kN w _ _ rfl)) hb1) 0).trans (by simp))) | skip))
      all_goals
        have hB2 : Below w.heap.size w w1 := below_after (by (with_reducible repeat first | assumption | exact bl0 _ _ | refine blA ?_ _ | (refine blS ?_ ?_ _; (simp <;> omega)) | refine blD ?_ | refine blN ?_ _ | refine blF ?_ ‹_›)) hB
        go_wp2
        go_ret
        exact ⟨rfl, by (with_reducible repeat first | assumption | exact bl0 _ _ | refine blA ?_ _ | (refine blS ?_ ?_ _; (simp <;> omega)) | refine blD ?_ | refine blN ?_ _ | refine blF ?_ ‹_›)⟩
theorem l6Dec_63 (y : Int) (w : World) (h : int63 y) : Calls Tryd.prog 63 #[.int .i64 y] w fun e w' => e = .returned (.string (st (Lib.itoa y))) ∧ Below w.heap.size w w' := by
  obtain ⟨n, rfl⟩ := Int.eq_ofNat_of_zero_le h.1
  rw [Lib.itoa_nonneg]
  exact l6Dec_any n w (by have := h.2; omega)
set_option maxRecDepth 100000 in
theorem l23Numbers_any (A : Option Addr) (c : Nat) (l : List Int) (w : World) (hs : Sl w 1 encInt A l.length l) (hn : l.length ≤ 1000) (hl : ∀ y ∈ l, int63 y) :
    Calls Tryd.prog 41 #[.slice A l.length c] w fun e w' => e = .returned (.string (st (numsB l))) ∧ Below w.heap.size w w' := by
  have HL := Lib.hid hl
  clear hl
  go_enter Tryd.func41, Tryd.ntmps41
  go_wp2
  go_loopw [3, 4] (fun v i wr => ∃ k : Nat, k ≤ l.length ∧ i = .int .i64 k ∧ v = .string (st (numsB (l.take k))) ∧ Below w.heap.size w wr) (fun _ i _ => l.length - (intOf i).toNat)
  case atStart => exact ⟨0, Nat.zero_le _, rfl, rfl, Below.refl _ _⟩
  case round =>
    obtain ⟨k, hk, rfl, rfl, hb⟩ := hrel
    have hln := numsB_len (l.take k) fun y hy => HL.out y (List.mem_of_mem_take hy)
    rw [List.length_take, Nat.min_eq_left hk] at hln
    by_cases hlt : k < l.length
    · obtain ⟨b, off, y, rfl, hbl, hy, hc⟩ := (hs.below hb).at_ hlt
      have q0 : wr.cell? ⟨b, off + k, none⟩ = some (.int .i64 y) := by simpa using hc 0 _ rfl
      have hyi := HL.out y (List.mem_of_getElem? hy)
      have hyl := itoa_63 hyi
      have HY := Lib.hid (numsB_snoc hy)
      clear hc hy
      have h1 : ∀ W, (Op.stringOp .add (st (numsB (l.take k))) ⟨#[32]⟩).run Tryd.prog W = .ok (.string (st (numsB (l.take k) ++ [32]))) W := fun W => add_st (b := [32]) W (by simp; omega) rfl
      have h2 : ∀ W, (Op.stringOp .add (st (numsB (l.take k) ++ [32])) (st (Lib.itoa y))).run Tryd.prog W = .ok (.string (st (numsB (l.take (k + 1))))) W := fun W => add_st W (by simp; omega) (by rw [HY.out, List.append_assoc]; rfl)
      clear hln
      go_wp2_with (go_at_call 63; refine (l6Dec_63 y _ hyi).mono ?_; rintro e w1 ⟨rfl, hb1⟩)
      have hb2 : Below w.heap.size w w1 := below_after hb (below_after (by (with_reducible repeat first | assumption | exact bl0 _ _ | refine blA ?_ _ | (refine blS ?_ ?_ _; (simp <;> omega)) | refine blD ?_ | refine blN ?_ _ | refine blF ?_ ‹_›)) hb1)
      go_wp2
      go_roundw
      case rel => exact ⟨k + 1, by omega, by go_num, rfl, by (with_reducible repeat first | assumption | exact bl0 _ _ | refine blA ?_ _ | (refine blS ?_ ?_ _; (simp <;> omega)) | refine blD ?_ | refine blN ?_ _ | refine blF ?_ ‹_›)⟩
      case measure => simp [intOf]; omega
    · obtain rfl : k = l.length := by omega
      rw [List.take_length] at *
      have hnl : ¬ ((l.length : Int) < (l.length : Int)) := by omega
      go_wp2
      go_ret
      exact ⟨rfl, by (with_reducible repeat first | assumption | exact bl0 _ _ | refine blA ?_ _ | (refine blS ?_ ?_ _; (simp <;> omega)) | refine blD ?_ | refine blN ?_ _ | refine blF ?_ ‹_›)⟩
end Go.Proofs.YtdpoicfciogfnaaDoor
