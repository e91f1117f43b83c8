/- The verdicts' names: both functions by one plain list. -/
import Derived.Test.YtkendoffknjpiaaConvI
namespace Go.Proofs.Ytkendoffknjpiaa
open Go.ChangeShapes Go.WideShapes Go.ChangeAt Go.RowKit
def vnames : List ByteArray := [⟨#[102, 105, 110, 101]⟩, ⟨#[116, 101, 120, 116]⟩, ⟨#[108, 101, 118, 101, 108]⟩, ⟨#[107, 101, 121]⟩, ⟨#[116, 97, 103]⟩, ⟨#[105, 110, 112, 117, 116]⟩, ⟨#[114, 97, 110, 103, 101]⟩, ⟨#[104, 97, 115, 104]⟩, ⟨#[111, 112, 101, 110]⟩, ⟨#[115, 99, 111, 114, 101]⟩]
def vname (n : Int) : ByteArray := if 0 ≤ n ∧ n ≤ 9 then vnames.getD n.toNat ⟨#[]⟩ else ⟨#[]⟩
theorem vname_out {n : Int} (h : ¬(0 ≤ n ∧ n ≤ 9)) : vname n = ⟨#[]⟩ := if_neg h
theorem range10 {n : Int} (h : 0 ≤ n ∧ n ≤ 9) : n = 0 ∨ n = 1 ∨ n = 2 ∨ n = 3 ∨ n = 4 ∨ n = 5 ∨ n = 6 ∨ n = 7 ∨ n = 8 ∨ n = 9 := by omega
theorem vname_get {n : Int} (h : 0 ≤ n ∧ n ≤ 9) : ([Value.string ⟨#[102, 105, 110, 101]⟩, Value.string ⟨#[116, 101, 120, 116]⟩, Value.string ⟨#[108, 101, 118, 101, 108]⟩, Value.string ⟨#[107, 101, 121]⟩, Value.string ⟨#[116, 97, 103]⟩, Value.string ⟨#[105, 110, 112, 117, 116]⟩, Value.string ⟨#[114, 97, 110, 103, 101]⟩, Value.string ⟨#[104, 97, 115, 104]⟩, Value.string ⟨#[111, 112, 101, 110]⟩, Value.string ⟨#[115, 99, 111, 114, 101]⟩] : List Value)[n.toNat]? = some (.string (vname n)) := by
  rcases range10 h with rfl | rfl | rfl | rfl | rfl | rfl | rfl | rfl | rfl | rfl <;> rfl
theorem specVerifyName_any (n : Int) (w : World) : Calls Try.prog 18 #[.int .i64 n] w fun e w' => e = .returned (.string (vname n)) ∧ Below w.heap.size w w' := by
  by_cases h : 0 ≤ n ∧ n ≤ 9
  · have hget := vname_get h
    obtain ⟨h1, h2⟩ := h
    go_enter Try.func18, Try.ntmps18
    go_wp2_with (go_at_call 54; refine (l6In_yes _ _ _ _ (by omega)).mono ?_; rintro e w' ⟨rfl, rfl⟩)
    go_ret
    exact ⟨rfl, by (repeat (first | (with_reducible refine below_alloc ?_ _) | (with_reducible refine below_setCell ?_ ?_ _; (simp <;> omega)) | (with_reducible refine below_drew ?_) | (with_reducible refine below_drewN ?_ _) | (with_reducible refine below_after ?_ (by assumption)) | (with_reducible exact Below.refl _ _)))⟩
  · go_enter Try.func18, Try.ntmps18
    go_wp2_with (go_at_call 54; refine (l6In_no _ _ _ _ h).mono ?_; rintro e w' ⟨rfl, rfl⟩)
    go_ret
    exact ⟨by rw [vname_out h]; rfl, by (repeat (first | (with_reducible refine below_alloc ?_ _) | (with_reducible refine below_setCell ?_ ?_ _; (simp <;> omega)) | (with_reducible refine below_drew ?_) | (with_reducible refine below_drewN ?_ _) | (with_reducible refine below_after ?_ (by assumption)) | (with_reducible exact Below.refl _ _)))⟩
theorem implVerifyName_any (n : Int) (w : World) : Calls Try.prog 19 #[.int .i64 n] w fun e w' => e = .returned (.string (vname n)) ∧ Below w.heap.size w w' := by
  by_cases h : 0 ≤ n ∧ n ≤ 9
  · have hget := vname_get h
    obtain ⟨h1, h2⟩ := h
    go_enter Try.func19, Try.ntmps19
    go_wp2_with (go_at_call 55; refine (inRange_yes _ _ _ _ (by omega)).mono ?_; rintro e w' ⟨rfl, rfl⟩)
    go_ret
    exact ⟨rfl, by (repeat (first | (with_reducible refine below_alloc ?_ _) | (with_reducible refine below_setCell ?_ ?_ _; (simp <;> omega)) | (with_reducible refine below_drew ?_) | (with_reducible refine below_drewN ?_ _) | (with_reducible refine below_after ?_ (by assumption)) | (with_reducible exact Below.refl _ _)))⟩
  · go_enter Try.func19, Try.ntmps19
    go_wp2_with (go_at_call 55; refine (inRange_no _ _ _ _ h).mono ?_; rintro e w' ⟨rfl, rfl⟩)
    go_ret
    exact ⟨by rw [vname_out h]; rfl, by (repeat (first | (with_reducible refine below_alloc ?_ _) | (with_reducible refine below_setCell ?_ ?_ _; (simp <;> omega)) | (with_reducible refine below_drew ?_) | (with_reducible refine below_drewN ?_ _) | (with_reducible refine below_after ?_ (by assumption)) | (with_reducible exact Below.refl _ _)))⟩
theorem lawVerifyName (n : Int) (w : World) : Calls Try.prog 3 #[.int .i64 n] w fun e w' => e = .returned (.bool true) ∧ Below w.heap.size w w' := by
  go_enter Try.func3, Try.ntmps3
  go_wp2_with fail
  refine (specVerifyName_any n _).mono ?_
  rintro e w1 ⟨rfl, hb1⟩
  go_wp2_with fail
  refine (implVerifyName_any n _).mono ?_
  rintro e w2 ⟨rfl, hb2⟩
  go_wp2
  go_ret
  exact ⟨rfl, below_after hb1 hb2⟩
end Go.Proofs.Ytkendoffknjpiaa
