/- Replays: is one valid? -/
import Derived.Test.YtkendoffknjpiaaInpL
namespace Go.Proofs.Ytkendoffknjpiaa
open Go.ChangeShapes Go.WideShapes Go.ChangeAt Go.RowKit
def inR (lo hi n : Int) : Bool := decide (lo ≤ n) && decide (n ≤ hi)
theorem inR_iff {lo hi n : Int} : inR lo hi n = true ↔ lo ≤ n ∧ n ≤ hi := by simp [inR]
theorem l6In_r (n lo hi : Int) (w : World) : Calls Try.prog 54 #[.int .i64 n, .int .i64 lo, .int .i64 hi] w fun e w' => e = .returned (.bool (inR lo hi n)) ∧ w = w' := l6In_any n lo hi w
theorem inRange_r (n lo hi : Int) (w : World) : Calls Try.prog 55 #[.int .i64 n, .int .i64 lo, .int .i64 hi] w fun e w' => e = .returned (.bool (inR lo hi n)) ∧ w = w' := inRange_any n lo hi w
structure Rep where
  lv : Int
  pl : Int
  sc : Int
  ins : List Inp
  hs : List Int
  tag : Int
def hashB (n : Int) : Bool := inR 0 1000002 n
def lenB (r : Rep) : Bool := decide (r.hs.length = r.ins.length / 5)
def replayOk (r : Rep) : Bool := inR 0 99 r.lv && (inR 0 9 r.pl && (inR 0 60 r.sc && (inputsOkB r.ins && (lenB r && (hashB r.tag && r.hs.all hashB)))))
theorem l23Hash_any (n : Int) (w : World) : Calls Try.prog 59 #[.int .i64 n] w fun e w' => e = .returned (.bool (hashB n)) ∧ w = w' := by
  go_enter Try.func59, Try.ntmps59
  go_wp2_with (go_at_call 54; refine (l6In_r _ _ _ _).mono ?_; rintro e w' ⟨rfl, rfl⟩)
  go_ret
  exact ⟨rfl, rfl⟩
theorem isHash_any (n : Int) (w : World) : Calls Try.prog 63 #[.int .i64 n] w fun e w' => e = .returned (.bool (hashB n)) ∧ w = w' := by
  go_enter Try.func63, Try.ntmps63
  go_wp2_with (go_at_call 55; refine (inRange_r _ _ _ _).mono ?_; rintro e w' ⟨rfl, rfl⟩)
  go_ret
  exact ⟨rfl, rfl⟩
theorem replayValid1_any (n : Int) (w : World) : Calls Try.prog 65 #[.int .i64 n] w fun e w' => e = .returned (.bool (!hashB n)) ∧ w = w' := by
  go_enter Try.func65, Try.ntmps65
  go_wp2_with (go_at_call 63; refine (isHash_any _ _).mono ?_; rintro e w' ⟨rfl, rfl⟩)
  go_ret
  exact ⟨rfl, rfl⟩
set_option maxRecDepth 100000 in
theorem indexFuncInt_any (A : Option Addr) (n c : Nat) (l : List Int) (w : World) (h : Sl w 1 encInt A n l) (hn : n ≤ 9223372036854775807) : Calls Try.prog 85 #[.slice A n c, .func (.func 65) #[] #[]] w (SomeIdx (!l.all hashB) w) := by
  obtain rfl := h.len
  go_enter Try.func85, Try.ntmps85
  go_wp2
  go_loop [8] (fun i => ∃ k : Nat, k ≤ l.length ∧ i = .int .i64 k ∧ (l.take k).all hashB = true) (fun i => l.length - (intOf i).toNat)
  case atStart => exact ⟨0, Nat.zero_le _, rfl, rfl⟩
  case round =>
    obtain ⟨k, hk, rfl, ht⟩ := hrel
    have Ht := Lib.hid ht; clear ht
    by_cases hlt : k < l.length
    · obtain ⟨b, off, x, rfl, hbl, hx, hc⟩ := h.at_ hlt
      have q0 := int_at hc
      have Hx := Lib.hid hx; clear hx
      clear h hc
      go_wp2_with (go_at_call 65; refine (replayValid1_any _ _).mono ?_; rintro e w' ⟨rfl, rfl⟩)
      · have ht : (!hashB x) = true := by assumption
        go_ret
        exact ⟨(k : Int), rfl, by rw [all_not Hx.out (by simpa using ht)]; simp, Below.refl _ _⟩
      · have ht : (!hashB x) = false := by assumption
        go_round
        case rel => exact ⟨k + 1, by omega, by go_num, all_take Hx.out Ht.out (by simpa using ht)⟩
        case measure => simp [intOf]; omega
    · have hkn : l.take k = l := List.take_of_length_le (by omega)
      have H := Lib.hid hkn; clear hkn
      go_wp2
      go_ret
      exact ⟨-1, rfl, by have := Ht.out; rw [H.out] at this; rw [this]; rfl, Below.refl _ _⟩
theorem containsFuncInt_any (A : Option Addr) (n c : Nat) (l : List Int) (w : World) (h : Sl w 1 encInt A n l) (hn : n ≤ 9223372036854775807) : Calls Try.prog 64 #[.slice A n c, .func (.func 65) #[] #[]] w fun e w' => e = .returned (.bool (!l.all hashB)) ∧ Below w.heap.size w w' := by
  go_enter Try.func64, Try.ntmps64
  go_wp2_with (go_at_call 85; refine (indexFuncInt_any _ _ _ l _ h hn).mono ?_; rintro e w' ⟨r, rfl, hr, hb⟩; have HR := Lib.hid hr; clear hr)
  go_ret
  exact ⟨ret_bool HR.out, hb⟩

set_option maxRecDepth 100000 in
theorem implReplayValid_any (A A' : Option Addr) (c c' : Nat) (r : Rep) (w : World) (h : Sl w 3 encInp A r.ins.length r.ins) (h' : Sl w 1 encInt A' r.hs.length r.hs) (hn : r.ins.length ≤ 9223372036854775807) (hn' : r.hs.length ≤ 9223372036854775807) :
    Calls Try.prog 24 #[.agg #[.int .i64 r.lv, .int .i64 r.pl, .int .i64 r.sc, .slice A r.ins.length c, .slice A' r.hs.length c', .int .i64 r.tag]] w fun e w' => e = .returned (.bool (replayOk r)) ∧ Below w.heap.size w w' := by
  cases hL : lenB r
  all_goals
    have h5 : ((r.hs.length : Int) == (r.ins.length : Int) / 5) = lenB r := by unfold lenB; rw [Bool.eq_iff_iff]; simp; omega
    rw [hL] at h5
    go_enter Try.func24, Try.ntmps24
    go_wp2_with (first
      | (go_at_call 55; refine (inRange_r _ _ _ _).mono ?_; rintro e w' ⟨rfl, rfl⟩)
      | (go_at_call 63; refine (isHash_any _ _).mono ?_; rintro e w' ⟨rfl, rfl⟩)
      | (go_at_call 62; refine (inputsOk_any _ _ _ r.ins _ (h.below ((Below.refl _ _).alloc (Nat.le_refl _) _)) hn).mono ?_; rintro e w' ⟨rfl, hb⟩; have k3 : w'.cell? ⟨w.heap.size, 3, none⟩ = some (.slice A r.ins.length c) := (hb.cell (by simp)).trans (by simp); have k4 : w'.cell? ⟨w.heap.size, 4, none⟩ = some (.slice A' r.hs.length c') := (hb.cell (by simp)).trans (by simp); have k5 : w'.cell? ⟨w.heap.size, 5, none⟩ = some (.int .i64 r.tag) := (hb.cell (by simp)).trans (by simp); have hb9 : Below w.heap.size w w' := below_after ((Below.refl _ _).alloc (Nat.le_refl _) _) hb)
      | (go_at_call 64; refine (containsFuncInt_any _ _ _ r.hs _ (h'.below (by assumption)) hn').mono ?_; rintro e w' ⟨rfl, hb⟩))
    all_goals (go_ret; refine ⟨ret_bool ?_, by repeat (first | exact Below.refl _ _ | refine below_after ?_ (by assumption) | refine Below.alloc ?_ (by simp <;> omega) _)⟩; simp_all [replayOk])

set_option maxRecDepth 100000 in
theorem specReplayValid_any (A A' : Option Addr) (c c' : Nat) (r : Rep) (w : World) (h : Sl w 3 encInp A r.ins.length r.ins) (h' : Sl w 1 encInt A' r.hs.length r.hs) (hn : r.ins.length ≤ 9223372036854775807) (hn' : r.hs.length ≤ 9223372036854775807) :
    Calls Try.prog 22 #[.agg #[.int .i64 r.lv, .int .i64 r.pl, .int .i64 r.sc, .slice A r.ins.length c, .slice A' r.hs.length c', .int .i64 r.tag]] w fun e w' => e = .returned (.bool (replayOk r)) ∧ Below w.heap.size w w' := by
  cases hL : lenB r
  all_goals
    have h5 : ((r.hs.length : Int) == (r.ins.length : Int) / 5) = lenB r := by unfold lenB; rw [Bool.eq_iff_iff]; simp; omega
    rw [hL] at h5
    have hb0 : Below w.heap.size w (w.alloc (.cells #[.int .i64 r.lv, .int .i64 r.pl, .int .i64 r.sc, .slice A r.ins.length c, .slice A' r.hs.length c', .int .i64 r.tag] 35)) := (Below.refl _ _).alloc (Nat.le_refl _) _
    go_enter Try.func22, Try.ntmps22
    go_wp2
    go_loop [3] (fun i => ∃ k : Nat, k ≤ r.hs.length ∧ i = .int .i64 k ∧ (r.hs.take k).all hashB = true) (fun i => r.hs.length - (intOf i).toNat)
    case atStart => exact ⟨0, Nat.zero_le _, rfl, rfl⟩
    case round =>
      obtain ⟨k, hk, rfl, ht⟩ := hrel
      have Ht := Lib.hid ht; clear ht
      by_cases hlt : k < r.hs.length
      · obtain ⟨b, off, x, rfl, hbl, hx, hc⟩ := (h'.below hb0).at_ hlt
        have q0 := int_at hc
        have Hx := Lib.hid hx; clear hx
        clear h' hc
        have hbne : b ≠ w.heap.size ∨ True := .inr trivial
        go_wp2_with (go_at_call 59; refine (l23Hash_any _ _).mono ?_; rintro e w' ⟨rfl, rfl⟩)
        · have ht : (!hashB x) = true := by assumption
          go_ret
          exact ⟨ret_bool (by unfold replayOk; rw [all_not Hx.out (by simpa using ht)]; simp), hb0⟩
        · have ht : (!hashB x) = false := by assumption
          go_round
          case rel => exact ⟨k + 1, by omega, by go_num, all_take Hx.out Ht.out (by simpa using ht)⟩
          case measure => simp [intOf]; omega
      · have hall : r.hs.all hashB = true := by have := Ht.out; rwa [List.take_of_length_le (by omega)] at this
        go_wp2_with (first
          | (go_at_call 54; refine (l6In_r _ _ _ _).mono ?_; rintro e w' ⟨rfl, rfl⟩)
          | (go_at_call 59; refine (l23Hash_any _ _).mono ?_; rintro e w' ⟨rfl, rfl⟩)
          | (go_at_call 60; refine (l23Inputs_any _ _ _ r.ins _ (h.below hb0) hn).mono ?_; rintro e w' ⟨rfl, hb⟩; have k3 : w'.cell? ⟨w.heap.size, 3, none⟩ = some (.slice A r.ins.length c) := (hb.cell (by simp)).trans (by simp); have k4 : w'.cell? ⟨w.heap.size, 4, none⟩ = some (.slice A' r.hs.length c') := (hb.cell (by simp)).trans (by simp); have k5 : w'.cell? ⟨w.heap.size, 5, none⟩ = some (.int .i64 r.tag) := (hb.cell (by simp)).trans (by simp); have hb9 : Below w.heap.size w w' := below_after hb0 hb))
        all_goals (go_ret; refine ⟨ret_bool ?_, by repeat (first | exact Below.refl _ _ | refine below_after ?_ (by assumption) | refine Below.alloc ?_ (by simp <;> omega) _)⟩; simp_all [replayOk])
end Go.Proofs.Ytkendoffknjpiaa
