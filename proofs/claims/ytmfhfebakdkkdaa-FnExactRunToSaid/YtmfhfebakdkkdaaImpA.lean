/- The program's arithmetic: root, coordinates, lengths. (Round B) -/
import Derived.Test.YtmfhfebakdkkdaaEngP
import Derived.Test.YtmfhfebakdkkdaaWk
import Derived.Deep.DeepMust
namespace Go.Proofs.Ytmfhfebakdkkdaa
open Go.ChangeShapes Go.WideShapes Go.ChangeAt Go.RowKit
theorem mid_in {lo hi : Int} (h : lo + 1 < hi) : lo < (lo + hi) / 2 ∧ (lo + hi) / 2 < hi := by omega
theorem sq31 {m : Int} (h0 : 0 ≤ m) (h1 : m ≤ 2147483648) : 0 ≤ m * m ∧ m * m ≤ 4611686018427387904 :=
  ⟨Int.mul_nonneg h0 h0, sq_le h0 h1⟩
theorem implRoot_any (n : Int) (w : World) (h0 : 0 ≤ n) (h1 : n ≤ 4000000000000) : Calls Try.prog 121 #[.int .i64 n] w fun e w' => e = .returned (.int .i64 (isq n)) ∧ w = w' := by
  go_enter Try.func121, Try.ntmps121
  go_wp2
  go_loopw [3, 4] (fun a b wr => wr = w ∧ ∃ lo hi : Int, a = .int .i64 lo ∧ b = .int .i64 hi ∧ 0 ≤ lo ∧ lo < hi ∧ hi ≤ 2147483648 ∧ lo * lo ≤ n ∧ n < hi * hi) (fun a b _ => (intOf b - intOf a).toNat)
  case atStart => exact ⟨rfl, 0, 2147483648, rfl, rfl, by omega, by omega, by omega, by omega, by omega⟩
  case round =>
    obtain ⟨rfl, lo, hi, rfl, rfl, hl0, hlh, hh, hln, hnh⟩ := hrel
    by_cases hlt : lo + 1 < hi
    · obtain ⟨m1, m2⟩ := mid_in hlt
      obtain ⟨m, hm⟩ : ∃ m : Int, (lo + hi) / 2 = m := ⟨_, rfl⟩
      rw [hm] at m1 m2
      obtain ⟨s0, s1⟩ := sq31 (m := m) (by omega) (by omega)
      have hm3 : (lo + hi).tdiv 2 = m := by rw [Int.tdiv_eq_ediv_of_nonneg (by omega)]; exact hm
      by_cases hc : m * m ≤ n
      · have Hln := Lib.hid hln
        have Hnh := Lib.hid hnh
        have Hc := Lib.hid hc
        clear hln hnh
        go_wp2
        go_roundw
        case rel => exact ⟨trivial, m, hi, rfl, rfl, by omega, by omega, hh, Hc.out, Hnh.out⟩
        case measure => simp [intOf]; omega
      · have hc2 : n < m * m := by omega
        have Hln := Lib.hid hln
        have Hc := Lib.hid hc2
        clear hln hnh
        go_wp2
        go_roundw
        case rel => exact ⟨trivial, lo, m, rfl, rfl, hl0, by omega, by omega, Hln.out, Hc.out⟩
        case measure => simp [intOf]; omega
    · have hhi : hi = lo + 1 := by omega
      subst hhi
      have hr := Lib.hid (isq_eq hl0 hln hnh)
      clear hln hnh
      go_wp2
      go_ret
      exact ⟨ret_int hr.out.symm, rfl⟩
theorem isCoordinate_any (n : Int) (w : World) : Calls Try.prog 114 #[.int .i64 n] w fun e w' => e = .returned (.bool (inR (-1000000) 1000000 n)) ∧ w = w' := by
  go_enter Try.func114, Try.ntmps114
  go_wp2_with (go_at_call 94; refine (inRange_r _ _ _ _).mono ?_; rintro e w' ⟨rfl, rfl⟩)
  go_ret
  exact ⟨rfl, rfl⟩
theorem implVecOk_any (v : V2) (w : World) : Calls Try.prog 75 #[.agg #[.int .i64 v.x, .int .i64 v.y]] w fun e w' => e = .returned (.bool (vOk v)) ∧ Below w.heap.size w w' := by
  cases h : inR (-1000000) 1000000 v.x
  · have hv : Hid (vOk v = false) := Lib.hid (by unfold vOk; rw [h]; rfl)
    go_enter Try.func75, Try.ntmps75
    go_wp2_with (go_at_call 114; refine (isCoordinate_any _ _).mono ?_; rw [h]; rintro e w' ⟨rfl, rfl⟩)
    go_ret
    exact ⟨ret_bool hv.out.symm, by (repeat (first | (with_reducible exact Below.refl _ _) | (with_reducible refine below_alloc ?_ _) | (with_reducible refine below_setCell ?_ ?_ _; (simp <;> omega)) | (with_reducible refine below_drew ?_) | (with_reducible refine below_drewN ?_ _) | (with_reducible refine below_after ?_ (by assumption))))⟩
  · have hv : Hid (vOk v = inR (-1000000) 1000000 v.y) := Lib.hid (by unfold vOk; rw [h]; rfl)
    go_enter Try.func75, Try.ntmps75
    go_wp2_with fail
    refine (isCoordinate_any _ _).mono ?_
    rw [h]
    rintro e w' ⟨rfl, rfl⟩
    go_wp2_with (go_at_call 114; refine (isCoordinate_any _ _).mono ?_; rintro e w' ⟨rfl, rfl⟩)
    go_ret
    exact ⟨ret_bool hv.out.symm, by (repeat (first | (with_reducible exact Below.refl _ _) | (with_reducible refine below_alloc ?_ _) | (with_reducible refine below_setCell ?_ ?_ _; (simp <;> omega)) | (with_reducible refine below_drew ?_) | (with_reducible refine below_drewN ?_ _) | (with_reducible refine below_after ?_ (by assumption))))⟩
theorem fixedOk_yes (n : Int) (w : World) (h : -2000000000 ≤ n ∧ n ≤ 2000000000) : Calls Try.prog 161 #[.int .i64 n] w fun e w' => e = .returned (.bool (true)) ∧ w = w' := by
  obtain ⟨h1, h2⟩ := h
  have h3 : decide (-2000000000 ≤ n) = true := by simpa using h1
  go_enter Try.func161, Try.ntmps161
  go_wp2
  go_ret
  exact ⟨rfl, rfl⟩
theorem implFixOk_yes (n : Int) (w : World) (h : -2000000000 ≤ n ∧ n ≤ 2000000000) : Calls Try.prog 157 #[.int .i64 n] w fun e w' => e = .returned (.bool (true)) ∧ w = w' := by
  go_enter Try.func157, Try.ntmps157
  go_wp2_with (go_at_call 161; refine (fixedOk_yes _ _ h).mono ?_; rintro e w' ⟨rfl, rfl⟩)
  go_ret
  exact ⟨rfl, rfl⟩
theorem square_any (v : V2) (w : World) (hv : vOk v = true) : Calls Try.prog 122 #[.agg #[.int .i64 v.x, .int .i64 v.y]] w fun e w' => e = .returned (.int .i64 (len2 v)) ∧ Below w.heap.size w w' := by
  obtain ⟨x0, x1, y0, y1⟩ := vOk_iff.1 hv
  obtain ⟨a0, a1⟩ := sq_bd (a := v.x) (by omega)
  obtain ⟨b0, b1⟩ := sq_bd (a := v.y) (by omega)
  clear hv
  go_enter Try.func122, Try.ntmps122
  go_wp2
  go_ret
  exact ⟨rfl, by (repeat (first | (with_reducible exact Below.refl _ _) | (with_reducible refine below_alloc ?_ _) | (with_reducible refine below_setCell ?_ ?_ _; (simp <;> omega)) | (with_reducible refine below_drew ?_) | (with_reducible refine below_drewN ?_ _) | (with_reducible refine below_after ?_ (by assumption))))⟩
theorem len2_bd {v : V2} (hv : vOk v = true) : 0 ≤ len2 v ∧ len2 v ≤ 4000000000000 := by
  obtain ⟨x0, x1, y0, y1⟩ := vOk_iff.1 hv
  have ha := sq_abs (a := v.x) (c := 1000000) (by omega)
  have hb := sq_abs (a := v.y) (c := 1000000) (by omega)
  have h3 := sq_nn v.x
  have h4 := sq_nn v.y
  unfold len2
  omega
theorem implVecLength_yes (v : V2) (w : World) (hv : vOk v = true) : Calls Try.prog 80 #[.agg #[.int .i64 v.x, .int .i64 v.y]] w fun e w' => e = .returned (.tuple #[.int .i64 (lenV v), .bool true]) ∧ Below w.heap.size w w' := by
  obtain ⟨l0, l1⟩ := len2_bd hv
  go_enter Try.func80, Try.ntmps80
  go_wp2_with fail
  refine (implVecOk_any v _).mono ?_
  rw [hv]
  rintro e w1 ⟨rfl, hb1⟩
  obtain ⟨hc1, hf1⟩ := bcell hb1; have hy1 : w.heap.size < w1.heap.size := (by have := hb1.size; first | omega | (simp at this; omega))
  go_wp2_with fail
  refine (square_any v _ hv).mono ?_
  rintro e w2 ⟨rfl, hb2⟩
  go_wp2_with fail
  refine (implRoot_any (len2 v) _ l0 l1).mono ?_
  rintro e w3 ⟨rfl, rfl⟩
  go_wp2
  refine bodyPost_ret (v := .tuple #[.int .i64 (lenV v), .bool true]) (by simp [results, Try.results80, go_sem, lenV]) rfl ⟨rfl, ?_⟩
  (repeat (first | (with_reducible exact Below.refl _ _) | (with_reducible refine below_alloc ?_ _) | (with_reducible refine below_setCell ?_ ?_ _; (simp <;> omega)) | (with_reducible refine below_drew ?_) | (with_reducible refine below_drewN ?_ _) | (with_reducible refine below_after ?_ (by assumption))))
theorem given_yes (v : V2) (w : World) (hv : vOk v = true) : Calls Try.prog 158 #[.agg #[.int .i64 v.x, .int .i64 v.y]] w fun e w' => e = .returned (.tuple #[.agg #[.int .i64 v.x, .int .i64 v.y], .bool true]) ∧ Below w.heap.size w w' := by
  go_enter Try.func158, Try.ntmps158
  go_wp2_with fail
  refine (implVecOk_any v _).mono ?_
  rw [hv]
  rintro e w1 ⟨rfl, hb1⟩
  obtain ⟨hc1, hf1⟩ := bcell hb1; have hy1 : w.heap.size < w1.heap.size := (by have := hb1.size; first | omega | (simp at this; omega)); have hz1 : w.heap.size + 1 < w1.heap.size := (by have := hb1.size; first | omega | (simp at this; omega))
  go_wp2
  refine bodyPost_ret (v := .tuple #[.agg #[.int .i64 v.x, .int .i64 v.y], .bool true]) (by simp [results, Try.results158, go_sem, *]) rfl ⟨rfl, ?_⟩
  (repeat (first | (with_reducible exact Below.refl _ _) | (with_reducible refine below_alloc ?_ _) | (with_reducible refine below_setCell ?_ ?_ _; (simp <;> omega)) | (with_reducible refine below_drew ?_) | (with_reducible refine below_drewN ?_ _) | (with_reducible refine below_after ?_ (by assumption))))
theorem mul_sm {a k : Int} (h0 : -1000000 ≤ a) (h1 : a ≤ 1000000) (k0 : 0 ≤ k) (k1 : k ≤ 2000) : -2000000000 ≤ a * k ∧ a * k ≤ 2000000000 := by
  have e1 := Int.mul_le_mul_of_nonneg_right h1 k0
  have e2 := Int.mul_le_mul_of_nonneg_right h0 k0
  omega
theorem implVecScale_ok (v : V2) (k : Int) (w : World) (hv : vOk v = true) (k0 : 0 ≤ k) (k1 : k ≤ 2000) (hr : vOk (scaleV v k) = true) :
    Calls Try.prog 146 #[.agg #[.int .i64 v.x, .int .i64 v.y], .int .i64 k] w fun e w' => e = .returned (.tuple #[.agg #[.int .i64 (scaleV v k).x, .int .i64 (scaleV v k).y], .bool true]) ∧ Below w.heap.size w w' := by
  obtain ⟨x0, x1, y0, y1⟩ := vOk_iff.1 hv
  obtain ⟨a0, a1⟩ := mul_sm x0 x1 k0 k1
  obtain ⟨b0, b1⟩ := mul_sm y0 y1 k0 k1
  go_enter Try.func146, Try.ntmps146
  go_wp2_with fail
  refine (implVecOk_any v _).mono ?_
  rw [hv]
  rintro e w1 ⟨rfl, hb1⟩
  obtain ⟨hc1, hf1⟩ := bcell hb1; have hy1 : w.heap.size < w1.heap.size := (by have := hb1.size; first | omega | (simp at this; omega)); have hz1 : w.heap.size + 1 < w1.heap.size := (by have := hb1.size; first | omega | (simp at this; omega))
  go_wp2_with fail
  refine (implFixOk_yes k _ (by omega)).mono ?_
  rintro e w2 ⟨rfl, rfl⟩
  go_wp2_with fail
  refine (given_yes (scaleV v k) _ hr).mono ?_
  rintro e w3 ⟨rfl, hb3⟩
  have hd3 : Below w.heap.size w w3 := by (repeat (first | (with_reducible exact Below.refl _ _) | (with_reducible refine below_alloc ?_ _) | (with_reducible refine below_setCell ?_ ?_ _; (simp <;> omega)) | (with_reducible refine below_drew ?_) | (with_reducible refine below_drewN ?_ _) | (with_reducible refine below_after ?_ (by assumption))))
  have R1 : Bk w1 (w.heap.size + 1) 24 #[.int .i64 0, .int .i64 0] := (Bk.new (w.alloc (.cells #[.int .i64 v.x, .int .i64 v.y] 24)) _ _ (by simp)).later hb1
  have R3 := R1.later hb3
  have z3 := R3.lt
  obtain ⟨⟨r0, r1⟩, rf⟩ := R3.c2
  go_wp2
  refine bodyPost_ret (v := .tuple #[.agg #[.int .i64 (scaleV v k).x, .int .i64 (scaleV v k).y], .bool true]) (by simp [results, Try.results146, go_sem, *]) rfl ⟨rfl, ?_⟩
  (repeat (first | (with_reducible assumption) | (with_reducible exact Below.refl _ _) | (with_reducible refine below_alloc ?_ _) | (with_reducible refine below_setCell ?_ ?_ _; (simp <;> omega)) | (with_reducible refine below_drew ?_) | (with_reducible refine below_drewN ?_ _) | (with_reducible refine below_after ?_ (by assumption))))
end Go.Proofs.Ytmfhfebakdkkdaa
