/- Inputs and their codes: the reference's and the program's functions, each by its contract. -/
import Derived.Test.YtkendoffknjpiaaConvI
namespace Go.Proofs.Ytkendoffknjpiaa
open Go.ChangeShapes Go.WideShapes Go.ChangeAt Go.RowKit
def inpOk (x : Inp) : Bool := if x.z then x.s == 0 && x.p == 0 else decide (-1 ≤ x.s) && decide (x.s ≤ 1) && (decide (0 ≤ x.p) && decide (x.p ≤ 2))
def code (x : Inp) : Int := if x.z then 9 else 3 * x.p + x.s + 1
theorem inpOk_bd {x : Inp} (h : inpOk x = true) : -1 ≤ x.s ∧ x.s ≤ 1 ∧ 0 ≤ x.p ∧ x.p ≤ 2 ∧ (x.z = true → x.s = 0 ∧ x.p = 0) := by
  obtain ⟨s, p, z⟩ := x
  cases z <;> simp [inpOk] at h ⊢ <;> omega

theorem specInputValid_any (x : Inp) (w : World) : Calls Try.prog 82 #[.agg #[.int .i64 x.s, .int .i64 x.p, .bool x.z]] w fun e w' => e = .returned (.bool (inpOk x)) ∧ Below w.heap.size w w' := by
  obtain ⟨s, p, z⟩ := x
  cases z
  all_goals
    go_enter Try.func82, Try.ntmps82
    go_wp2_with (go_at_call 54; refine (l6In_any _ _ _ _).mono ?_; rintro e w' ⟨rfl, rfl⟩)
    all_goals (go_ret; refine ⟨?_, by repeat (first | exact Below.refl _ _ | refine below_after ?_ (by assumption) | refine Below.alloc ?_ (by simp <;> omega) _)⟩; first | (simp_all [inpOk]; done) | (simp_all [inpOk]; omega))
theorem implInputValid_any (x : Inp) (w : World) : Calls Try.prog 78 #[.agg #[.int .i64 x.s, .int .i64 x.p, .bool x.z]] w fun e w' => e = .returned (.bool (inpOk x)) ∧ Below w.heap.size w w' := by
  obtain ⟨s, p, z⟩ := x
  cases z
  all_goals
    go_enter Try.func78, Try.ntmps78
    go_wp2_with (go_at_call 55; refine (inRange_any _ _ _ _).mono ?_; rintro e w' ⟨rfl, rfl⟩)
    all_goals (go_ret; refine ⟨?_, by repeat (first | exact Below.refl _ _ | refine below_after ?_ (by assumption) | refine Below.alloc ?_ (by simp <;> omega) _)⟩; first | (simp_all [inpOk]; done) | (simp_all [inpOk]; omega))

theorem l12Code_any (x : Inp) (w : World) (h : inpOk x = true) : Calls Try.prog 87 #[.agg #[.int .i64 x.s, .int .i64 x.p, .bool x.z]] w fun e w' => e = .returned (.int .i64 (code x)) ∧ Below w.heap.size w w' := by
  obtain ⟨h1, h2, h3, h4, _⟩ := inpOk_bd h
  clear h
  obtain ⟨s, p, z⟩ := x
  simp only at h1 h2 h3 h4
  cases z
  all_goals
    go_enter Try.func87, Try.ntmps87
    go_wp2
    go_ret
    exact ⟨ret_int (by simp [code]), by repeat (first | exact Below.refl _ _ | refine below_after ?_ (by assumption) | refine Below.alloc ?_ (by simp <;> omega) _)⟩
theorem implInputCode_any (x : Inp) (w : World) : Calls Try.prog 48 #[.agg #[.int .i64 x.s, .int .i64 x.p, .bool x.z]] w fun e w' => e = .returned (.int .i64 (if inpOk x then code x else -1)) ∧ Below w.heap.size w w' := by
  obtain ⟨s, p, z⟩ := x
  cases h : inpOk ⟨s, p, z⟩ with
  | true =>
    obtain ⟨h1, h2, h3, h4, _⟩ := inpOk_bd h
    simp only at h1 h2 h3 h4
    cases z
    · go_enter Try.func48, Try.ntmps48
      go_wp2_with (go_at_call 78; refine (implInputValid_any ⟨s, p, false⟩ _).mono ?_; rintro e w' ⟨rfl, hb⟩; have k0 : w'.cell? ⟨w.heap.size, 0, none⟩ = some (.int .i64 s) := (hb.cell (by simp)).trans (by simp); have k1 : w'.cell? ⟨w.heap.size, 1, none⟩ = some (.int .i64 p) := (hb.cell (by simp)).trans (by simp); have k2 : w'.cell? ⟨w.heap.size, 2, none⟩ = some (.bool false) := (hb.cell (by simp)).trans (by simp))
      go_ret
      exact ⟨ret_int (by simp [code]), by repeat (first | exact Below.refl _ _ | refine below_after ?_ (by assumption) | refine Below.alloc ?_ (by simp <;> omega) _)⟩
    · go_enter Try.func48, Try.ntmps48
      go_wp2_with (go_at_call 78; refine (implInputValid_any ⟨s, p, true⟩ _).mono ?_; rintro e w' ⟨rfl, hb⟩; have k2 : w'.cell? ⟨w.heap.size, 2, none⟩ = some (.bool true) := (hb.cell (by simp)).trans (by simp))
      go_ret
      exact ⟨ret_int (by simp [code]), by repeat (first | exact Below.refl _ _ | refine below_after ?_ (by assumption) | refine Below.alloc ?_ (by simp <;> omega) _)⟩
  | false =>
    go_enter Try.func48, Try.ntmps48
    go_wp2_with (go_at_call 78; refine (implInputValid_any ⟨s, p, z⟩ _).mono ?_; rintro e w' ⟨rfl, hb⟩)
    go_ret
    exact ⟨rfl, by repeat (first | exact Below.refl _ _ | refine below_after ?_ (by assumption) | refine Below.alloc ?_ (by simp <;> omega) _)⟩
/-- The input of a code; of what is no code the zero value. -/
theorem implInputCode_ok (x : Inp) (w : World) (h : inpOk x = true) : Calls Try.prog 48 #[.agg #[.int .i64 x.s, .int .i64 x.p, .bool x.z]] w fun e w' => e = .returned (.int .i64 (code x)) ∧ Below w.heap.size w w' :=
  (implInputCode_any x w).mono fun e w' ⟨h1, h2⟩ => ⟨by rw [h1, if_pos h], h2⟩
def inpOf (c : Int) : Inp := if c = 9 then ⟨0, 0, true⟩ else if 0 ≤ c ∧ c ≤ 8 then ⟨c % 3 - 1, c / 3, false⟩ else ⟨0, 0, false⟩
def codeOk (c : Int) : Bool := decide (0 ≤ c) && decide (c ≤ 9)
theorem specInputOf_any (c : Int) (w : World) : Calls Try.prog 66 #[.int .i64 c] w fun e w' => e = .returned (.tuple #[.agg #[.int .i64 (inpOf c).s, .int .i64 (inpOf c).p, .bool (inpOf c).z], .bool (codeOk c)]) ∧ Below w.heap.size w w' := by
  by_cases h0 : 0 ≤ c ∧ c ≤ 9
  · obtain ⟨h1, h2⟩ := h0
    by_cases h9 : c = 9
    · subst h9
      go_enter Try.func66, Try.ntmps66
      go_wp2_with (go_at_call 54; refine (l6In_any _ _ _ _).mono ?_; rintro e w' ⟨rfl, rfl⟩)
      exact bodyPost_ret (v := .tuple #[.agg #[.int .i64 0, .int .i64 0, .bool true], .bool true]) (by simp [results, Try.results66, go_sem]) rfl ⟨by simp [inpOf, codeOk], by repeat (first | exact Below.refl _ _ | refine below_after ?_ (by assumption) | refine Below.alloc ?_ (by simp <;> omega) _)⟩
    · go_enter Try.func66, Try.ntmps66
      go_wp2_with (go_at_call 54; refine (l6In_any _ _ _ _).mono ?_; rintro e w' ⟨rfl, rfl⟩)
      exact bodyPost_ret (v := .tuple #[.agg #[.int .i64 (c % 3 - 1), .int .i64 (c / 3), .bool false], .bool true]) (by simp [results, Try.results66, go_sem]) rfl ⟨by simp [inpOf, codeOk, h9, h1, h2, show c ≤ 8 by omega], by repeat (first | exact Below.refl _ _ | refine below_after ?_ (by assumption) | refine Below.alloc ?_ (by simp <;> omega) _)⟩
  · go_enter Try.func66, Try.ntmps66
    go_wp2_with (go_at_call 54; refine (l6In_no _ _ _ _ h0).mono ?_; rintro e w' ⟨rfl, rfl⟩)
    exact bodyPost_ret (v := .tuple #[.agg #[.int .i64 0, .int .i64 0, .bool false], .bool false]) (by simp [results, Try.results66, go_sem]) rfl ⟨by rw [show inpOf c = ⟨0, 0, false⟩ by unfold inpOf; rw [if_neg (by omega), if_neg (by omega)], show codeOk c = false by unfold codeOk; simp; omega], by repeat (first | exact Below.refl _ _ | refine below_after ?_ (by assumption) | refine Below.alloc ?_ (by simp <;> omega) _)⟩
theorem implInputOf_any (c : Int) (w : World) : Calls Try.prog 68 #[.int .i64 c] w fun e w' => e = .returned (.tuple #[.agg #[.int .i64 (inpOf c).s, .int .i64 (inpOf c).p, .bool (inpOf c).z], .bool (codeOk c)]) ∧ Below w.heap.size w w' := by
  by_cases h9 : c = 9
  · subst h9
    go_enter Try.func68, Try.ntmps68
    go_wp2_with (go_at_call 55; refine (inRange_any _ _ _ _).mono ?_; rintro e w' ⟨rfl, rfl⟩)
    exact bodyPost_ret (v := .tuple #[.agg #[.int .i64 0, .int .i64 0, .bool true], .bool true]) (by simp [results, Try.results68, go_sem]) rfl ⟨by simp [inpOf, codeOk], by repeat (first | exact Below.refl _ _ | refine below_after ?_ (by assumption) | refine Below.alloc ?_ (by simp <;> omega) _)⟩
  · have h9b : (c == 9) = false := by simpa using h9
    by_cases h0 : 0 ≤ c ∧ c ≤ 8
    · obtain ⟨h1, h2⟩ := h0
      go_enter Try.func68, Try.ntmps68
      go_wp2_with (go_at_call 55; refine (inRange_any _ _ _ _).mono ?_; rintro e w' ⟨rfl, rfl⟩)
      exact bodyPost_ret (v := .tuple #[.agg #[.int .i64 (c % 3 - 1), .int .i64 (c / 3), .bool false], .bool true]) (by simp [results, Try.results68, go_sem]) rfl ⟨by simp [inpOf, codeOk, h9, h1, h2, show c ≤ 9 by omega], by repeat (first | exact Below.refl _ _ | refine below_after ?_ (by assumption) | refine Below.alloc ?_ (by simp <;> omega) _)⟩
    · go_enter Try.func68, Try.ntmps68
      go_wp2_with (go_at_call 55; refine (inRange_no _ _ _ _ h0).mono ?_; rintro e w' ⟨rfl, rfl⟩)
      exact bodyPost_ret (v := .tuple #[.agg #[.int .i64 0, .int .i64 0, .bool false], .bool false]) (by simp [results, Try.results68, go_sem]) rfl ⟨by rw [show inpOf c = ⟨0, 0, false⟩ by unfold inpOf; rw [if_neg (by omega), if_neg (by omega)], show codeOk c = false by unfold codeOk; simp; omega], by repeat (first | exact Below.refl _ _ | refine below_after ?_ (by assumption) | refine Below.alloc ?_ (by simp <;> omega) _)⟩
end Go.Proofs.Ytkendoffknjpiaa
