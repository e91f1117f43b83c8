/- The reference's arithmetic of vectors: roots, lengths, directions. -/
import Derived.Test.YtmfhfebakdkkdaaSpecA
namespace Go.Proofs.Ytmfhfebakdkkdaa
open Go.ChangeShapes Go.WideShapes Go.ChangeAt Go.RowKit
theorem half_up {a b : Int} (h : a < b) : a + 1 ≤ (a + b + 1) / 2 ∧ (a + b + 1) / 2 ≤ b := by omega
theorem sq_in {m : Int} (h0 : 0 ≤ m) (h1 : m ≤ 2000000) : 0 ≤ m * m ∧ m * m ≤ 4000000000000 :=
  ⟨Int.mul_nonneg h0 h0, sq_le h0 h1⟩
theorem l1Sqrt_any (n : Int) (w : World) (h0 : 0 ≤ n) (h1 : n ≤ 4000000000000) : Calls Try.prog 149 #[.int .i64 n] w fun e w' => e = .returned (.int .i64 (isq n)) ∧ w = w' := by
  go_enter Try.func149, Try.ntmps149
  go_wp2
  go_loop [3, 4] (fun a b => ∃ x y : Int, 0 ≤ x ∧ x ≤ y ∧ y ≤ 2000000 ∧ a = .int .i64 x ∧ b = .int .i64 y ∧ x * x ≤ n ∧ n < (y + 1) * (y + 1)) (fun a b => (intOf b - intOf a).toNat)
  case atStart => exact ⟨0, 2000000, by omega, by omega, by omega, rfl, rfl, by omega, by omega⟩
  case round =>
    obtain ⟨x, y, hx0, hxy, hy, rfl, rfl, hl, hu⟩ := hrel
    by_cases hlt : x < y
    · obtain ⟨m0, m1⟩ := half_up hlt
      obtain ⟨s0, s1⟩ := sq_in (m := (x + y + 1) / 2) (by omega) (by omega)
      go_wp2
      · have ht : (x + y + 1) / 2 * ((x + y + 1) / 2) ≤ n := by assumption
        go_round
        case rel => exact ⟨(x + y + 1) / 2, y, by omega, by omega, by omega, rfl, rfl, ht, hu⟩
        case measure => simp [intOf]; omega
      · have ht : n < (x + y + 1) / 2 * ((x + y + 1) / 2) := by assumption
        go_round
        case rel => exact ⟨x, (x + y + 1) / 2 - 1, by omega, by omega, by omega, rfl, rfl, hl, by rw [Int.sub_add_cancel]; exact ht⟩
        case measure => simp [intOf]; omega
    · have e : x = y := by omega
      subst e
      go_wp2
      go_ret
      exact ⟨ret_int (isq_eq hx0 hl hu).symm, rfl⟩
theorem l1Mul_any (a b : Int) (w : World) (h : -9000000000000000000 ≤ a * b ∧ a * b ≤ 9000000000000000000) : Calls Try.prog 159 #[.int .i64 a, .int .i64 b] w fun e w' => e = .returned (.int .i64 (mul1 a b)) ∧ w = w' := by
  obtain ⟨h1, h2⟩ := h
  go_enter Try.func159, Try.ntmps159
  go_wp2
  go_ret
  exact ⟨rfl, rfl⟩
theorem mul_bd {a k : Int} (h0 : -100000000 ≤ a) (h1 : a ≤ 100000000) (k0 : 0 ≤ k) (k1 : k ≤ 2000) : -200000000000 ≤ a * k ∧ a * k ≤ 200000000000 := by
  have e1 := Int.mul_le_mul_of_nonneg_right h1 k0
  have e2 := Int.mul_le_mul_of_nonneg_right h0 k0
  omega
set_option maxRecDepth 100000 in
theorem l2Scale_any (v : V2) (k : Int) (w : World) (hv : bdV v) (k0 : 0 ≤ k) (k1 : k ≤ 2000) : Calls Try.prog 151 #[.agg #[.int .i64 v.x, .int .i64 v.y], .int .i64 k] w fun e w' => e = .returned (.agg #[.int .i64 (scaleV v k).x, .int .i64 (scaleV v k).y]) ∧ Below w.heap.size w w' := by
  obtain ⟨a1, a2, a3, a4⟩ := hv
  have hx := mul_bd a1 a2 k0 k1
  have hy := mul_bd a3 a4 k0 k1
  go_enter Try.func151, Try.ntmps151
  go_wp2
  refine wp_world (fun W => Bk W w.heap.size 24 #[.int .i64 v.x, .int .i64 v.y] ∧ Bk W (w.heap.size + 1) 24 #[.int .i64 0, .int .i64 0] ∧ Below w.heap.size w W) ⟨(Bk.new _ _ _ rfl).alloc _, Bk.new _ _ _ (by simp), by (repeat (first | (with_reducible exact Below.refl _ _) | (with_reducible refine below_alloc ?_ _) | (with_reducible refine below_setCell ?_ ?_ _; (simp <;> omega)) | (with_reducible refine below_drew ?_) | (with_reducible refine below_drewN ?_ _) | (with_reducible refine below_after ?_ (by assumption))))⟩ ?_
  rintro W ⟨hA, hB, hd⟩
  obtain ⟨⟨a0, a1⟩, af⟩ := hA.c2
  obtain ⟨⟨b0, b1⟩, bf⟩ := hB.c2
  go_still_tail 9, (by kernel_rfl)
  still_call (stl (l1Mul_any _ _ _ (by omega)))
  repeat still_step
  still_call (stl (l1Mul_any _ _ _ (by omega)))
  repeat still_step
  refine wpStill_nil ?_
  change wpList _ _ _ _ _ W.drew
  go_wp2
  refine bodyPost_ret (v := .agg #[.int .i64 (scaleV v k).x, .int .i64 (scaleV v k).y]) (by simp [results, Try.results151, go_sem, scaleV, b0, b1]) rfl ⟨rfl, ?_⟩; (repeat (first | (with_reducible exact Below.refl _ _) | (with_reducible refine below_alloc ?_ _) | (with_reducible refine below_setCell ?_ ?_ _; (simp <;> omega)) | (with_reducible refine below_drew ?_) | (with_reducible refine below_drewN ?_ _) | (with_reducible refine below_after ?_ (by assumption))))
theorem l2Length_any (v : V2) (w : World) (hv : -1000000 ≤ v.x ∧ v.x ≤ 1000000 ∧ -1000000 ≤ v.y ∧ v.y ≤ 1000000) : Calls Try.prog 133 #[.agg #[.int .i64 v.x, .int .i64 v.y]] w fun e w' => e = .returned (.int .i64 (lenV v)) ∧ Below w.heap.size w w' := by
  obtain ⟨a1, a2, a3, a4⟩ := hv
  have hx : 0 ≤ v.x * v.x ∧ v.x * v.x ≤ 1000000000000 := ⟨sq_nn _, by have := sq_abs (a := v.x) (c := 1000000) (by omega); omega⟩
  have hy : 0 ≤ v.y * v.y ∧ v.y * v.y ≤ 1000000000000 := ⟨sq_nn _, by have := sq_abs (a := v.y) (c := 1000000) (by omega); omega⟩
  obtain ⟨x1, x2⟩ := hx
  obtain ⟨y1, y2⟩ := hy
  go_enter Try.func133, Try.ntmps133
  go_wp2_with fail
  refine (l1Sqrt_any (v.x * v.x + v.y * v.y) _ (by omega) (by omega)).mono ?_
  rintro e w1 ⟨rfl, rfl⟩
  go_wp2
  go_ret
  refine ⟨rfl, ?_⟩; (repeat (first | (with_reducible exact Below.refl _ _) | (with_reducible refine below_alloc ?_ _) | (with_reducible refine below_setCell ?_ ?_ _; (simp <;> omega)) | (with_reducible refine below_drew ?_) | (with_reducible refine below_drewN ?_ _) | (with_reducible refine below_after ?_ (by assumption))))
theorem dirT_len : dirT.length = 16 := rfl
theorem dirT_at {k : Nat} (h : k < 16) : dirT[k]? = some (dirT.getD k 0) := by
  rw [List.getD_eq_getElem?_getD, List.getElem?_eq_getElem (by rw [dirT_len]; exact h)]; rfl
theorem dir_cell (w : World) (T : TypeId) {k : Nat} (h : k < 16) : (w.alloc (.cells #[.int .i64 1000, .int .i64 924, .int .i64 707, .int .i64 383, .int .i64 0, .int .i64 (-383), .int .i64 (-707), .int .i64 (-924), .int .i64 (-1000), .int .i64 (-924), .int .i64 (-707), .int .i64 (-383), .int .i64 0, .int .i64 383, .int .i64 707, .int .i64 924] T)).cell? ⟨w.heap.size, k, none⟩ = some (.int .i64 (dirT.getD k 0)) := by
  have := (Blk.new w #[.int .i64 1000, .int .i64 924, .int .i64 707, .int .i64 383, .int .i64 0, .int .i64 (-383), .int .i64 (-707), .int .i64 (-924), .int .i64 (-1000), .int .i64 (-924), .int .i64 (-707), .int .i64 (-383), .int .i64 0, .int .i64 383, .int .i64 707, .int .i64 924] T).2 k (.int .i64 (dirT.getD k 0)) (by
    have e := dirT_at h
    have : ([.int .i64 1000, .int .i64 924, .int .i64 707, .int .i64 383, .int .i64 0, .int .i64 (-383), .int .i64 (-707), .int .i64 (-924), .int .i64 (-1000), .int .i64 (-924), .int .i64 (-707), .int .i64 (-383), .int .i64 0, .int .i64 383, .int .i64 707, .int .i64 924] : List Value) = dirT.map (.int .i64) := rfl
    show ([.int .i64 1000, .int .i64 924, .int .i64 707, .int .i64 383, .int .i64 0, .int .i64 (-383), .int .i64 (-707), .int .i64 (-924), .int .i64 (-1000), .int .i64 (-924), .int .i64 (-707), .int .i64 (-383), .int .i64 0, .int .i64 383, .int .i64 707, .int .i64 924] : List Value)[k]? = _
    rw [this, List.getElem?_map, e]; rfl)
  exact this
set_option maxRecDepth 100000 in
theorem l2Direction_any (d : Int) (w : World) (h0 : 0 ≤ d) (h1 : d ≤ 15) : Calls Try.prog 152 #[.int .i64 d] w fun e w' => e = .returned (.agg #[.int .i64 (dirV d).x, .int .i64 (dirV d).y]) ∧ Below w.heap.size w w' := by
  obtain ⟨k, rfl⟩ := Int.eq_ofNat_of_zero_le h0
  obtain ⟨j, hj, hjl⟩ : ∃ j : Nat, ((k : Int) + 12) % 16 = (j : Int) ∧ j < 16 := ⟨(k + 12) % 16, by simp, by omega⟩
  have q1 := dir_cell (w.alloc (.cells #[.int .i64 0, .int .i64 0] 24)) 3 (k := k) (by omega)
  have q2 := dir_cell (w.alloc (.cells #[.int .i64 0, .int .i64 0] 24)) 3 (k := j) (by omega)
  have e1 : (dirV k).x = dirT.getD k 0 := rfl
  have e2 : (dirV k).y = dirT.getD j 0 := by show dirT.getD (((k : Int) + 12) % 16).toNat 0 = _; rw [hj]; rfl
  rw [e1, e2]
  simp only [World.size_alloc] at q1 q2
  have hk16 : (k : Int) < 16 := by omega
  have hj16 : (j : Int) < 16 := by omega
  have hS : IntKind.i64.wrap ((k : Int) + 12) = (k : Int) + 12 := IntWalk.i64_in _ (by omega)
  have hT : ((k : Int) + 12).tmod 16 = (j : Int) := by rw [Int.tmod_eq_emod_of_nonneg (by omega), hj]
  clear e1 e2 hj
  go_enter Try.func152, Try.ntmps152
  go_wp2
  refine wp_world (fun W => Bk W w.heap.size 24 #[.int .i64 0, .int .i64 0] ∧ W.cell? ⟨w.heap.size + 1, k, none⟩ = some (.int .i64 (dirT.getD k 0)) ∧ W.cell? ⟨w.heap.size + 1, j, none⟩ = some (.int .i64 (dirT.getD j 0)) ∧ Below w.heap.size w W) ⟨(Bk.new _ _ _ rfl).alloc _, q1, q2, by (repeat (first | (with_reducible exact Below.refl _ _) | (with_reducible refine below_alloc ?_ _) | (with_reducible refine below_setCell ?_ ?_ _; (simp <;> omega)) | (with_reducible refine below_drew ?_) | (with_reducible refine below_drewN ?_ _) | (with_reducible refine below_after ?_ (by assumption))))⟩ ?_
  clear q1 q2
  rintro W ⟨hA, q1, q2, hd⟩
  obtain ⟨⟨a0, a1⟩, af⟩ := hA.c2
  go_still_tail 11, (by kernel_rfl)
  clear hS hT
  change wpList _ _ _ _ _ W.drew
  go_wp2
  refine bodyPost_ret (v := .agg #[.int .i64 (dirT.getD k 0), .int .i64 (dirT.getD j 0)]) (by simp [results, Try.results152, go_sem, a0, a1]) rfl ⟨rfl, ?_⟩; (repeat (first | (with_reducible exact Below.refl _ _) | (with_reducible refine below_alloc ?_ _) | (with_reducible refine below_setCell ?_ ?_ _; (simp <;> omega)) | (with_reducible refine below_drew ?_) | (with_reducible refine below_drewN ?_ _) | (with_reducible refine below_after ?_ (by assumption))))
end Go.Proofs.Ytmfhfebakdkkdaa
