/- Inputs and their codes: the reference's and the program's functions, each by its contract. -/
import Derived.Test.YtmfhfebakdkkdaaConvI
namespace Go.Proofs.Ytmfhfebakdkkdaa
open Go.ChangeShapes Go.WideShapes Go.ChangeAt Go.RowKit
def inpOk (x : Inp) : Bool := if x.z then x.s == 0 && x.p == 0 else decide (-1 ≤ x.s) && decide (x.s ≤ 1) && (decide (0 ≤ x.p) && decide (x.p ≤ 2))
def code (x : Inp) : Int := if x.z then 9 else 3 * x.p + x.s + 1
theorem inpOk_bd {x : Inp} (h : inpOk x = true) : -1 ≤ x.s ∧ x.s ≤ 1 ∧ 0 ≤ x.p ∧ x.p ≤ 2 ∧ (x.z = true → x.s = 0 ∧ x.p = 0) := by
  obtain ⟨s, p, z⟩ := x
  cases z <;> simp [inpOk] at h ⊢ <;> omega

theorem specInputValid_any (x : Inp) (w : World) : Calls Try.prog 72 #[.agg #[.int .i64 x.s, .int .i64 x.p, .bool x.z]] w fun e w' => e = .returned (.bool (inpOk x)) ∧ Below w.heap.size w w' := by
  obtain ⟨s, p, z⟩ := x
  cases z
  all_goals
    go_enter Try.func72, Try.ntmps72
    go_wp2_with (go_at_call 95; refine (l6In_any _ _ _ _).mono ?_; rintro e w' ⟨rfl, rfl⟩)
    all_goals (go_ret; refine ⟨?_, by repeat (first | exact Below.refl _ _ | refine below_after ?_ (by assumption) | refine Below.alloc ?_ (by simp <;> omega) _)⟩; first | (simp_all [inpOk]; done) | (simp_all [inpOk]; omega))
theorem implInputValid_any (x : Inp) (w : World) : Calls Try.prog 69 #[.agg #[.int .i64 x.s, .int .i64 x.p, .bool x.z]] w fun e w' => e = .returned (.bool (inpOk x)) ∧ Below w.heap.size w w' := by
  obtain ⟨s, p, z⟩ := x
  cases z
  all_goals
    go_enter Try.func69, Try.ntmps69
    go_wp2_with (go_at_call 94; refine (inRange_any _ _ _ _).mono ?_; rintro e w' ⟨rfl, rfl⟩)
    all_goals (go_ret; refine ⟨?_, by repeat (first | exact Below.refl _ _ | refine below_after ?_ (by assumption) | refine Below.alloc ?_ (by simp <;> omega) _)⟩; first | (simp_all [inpOk]; done) | (simp_all [inpOk]; omega))

def inpOf (c : Int) : Inp := if c = 9 then ⟨0, 0, true⟩ else if 0 ≤ c ∧ c ≤ 8 then ⟨c % 3 - 1, c / 3, false⟩ else ⟨0, 0, false⟩
def codeOk (c : Int) : Bool := decide (0 ≤ c) && decide (c ≤ 9)
theorem specInputOf_any (c : Int) (w : World) : Calls Try.prog 106 #[.int .i64 c] w fun e w' => e = .returned (.tuple #[.agg #[.int .i64 (inpOf c).s, .int .i64 (inpOf c).p, .bool (inpOf c).z], .bool (codeOk c)]) ∧ Below w.heap.size w w' := by
  by_cases h0 : 0 ≤ c ∧ c ≤ 9
  · obtain ⟨h1, h2⟩ := h0
    by_cases h9 : c = 9
    · subst h9
      go_enter Try.func106, Try.ntmps106
      go_wp2_with (go_at_call 95; refine (l6In_any _ _ _ _).mono ?_; rintro e w' ⟨rfl, rfl⟩)
      exact bodyPost_ret (v := .tuple #[.agg #[.int .i64 0, .int .i64 0, .bool true], .bool true]) (by simp [results, Try.results106, go_sem]) rfl ⟨by simp [inpOf, codeOk], by repeat (first | exact Below.refl _ _ | refine below_after ?_ (by assumption) | refine Below.alloc ?_ (by simp <;> omega) _)⟩
    · go_enter Try.func106, Try.ntmps106
      go_wp2_with (go_at_call 95; refine (l6In_any _ _ _ _).mono ?_; rintro e w' ⟨rfl, rfl⟩)
      exact bodyPost_ret (v := .tuple #[.agg #[.int .i64 (c % 3 - 1), .int .i64 (c / 3), .bool false], .bool true]) (by simp [results, Try.results106, go_sem]) rfl ⟨by simp [inpOf, codeOk, h9, h1, h2, show c ≤ 8 by omega], by repeat (first | exact Below.refl _ _ | refine below_after ?_ (by assumption) | refine Below.alloc ?_ (by simp <;> omega) _)⟩
  · go_enter Try.func106, Try.ntmps106
    go_wp2_with (go_at_call 95; refine (l6In_no _ _ _ _ h0).mono ?_; rintro e w' ⟨rfl, rfl⟩)
    exact bodyPost_ret (v := .tuple #[.agg #[.int .i64 0, .int .i64 0, .bool false], .bool false]) (by simp [results, Try.results106, go_sem]) rfl ⟨by rw [show inpOf c = ⟨0, 0, false⟩ by unfold inpOf; rw [if_neg (by omega), if_neg (by omega)], show codeOk c = false by unfold codeOk; simp; omega], by repeat (first | exact Below.refl _ _ | refine below_after ?_ (by assumption) | refine Below.alloc ?_ (by simp <;> omega) _)⟩
end Go.Proofs.Ytmfhfebakdkkdaa
