/- Lemmas: SpecA SpecB SpecC SpecF SpecG SpecH. -/
import Derived.Test.YtlegilbiapbfkaaZHead
import Derived.Test.YtlegilbiapbfkaaZBase
import Derived.Deep.DeepMust
/- The reference's vectors, boxes and levels, each by its contract. -/
namespace Go.Proofs.Ytlegilbiapbfkaa
open Go.ChangeShapes Go.WideShapes Go.ChangeAt Go.RowKit
end Go.Proofs.Ytlegilbiapbfkaa

/- The reference's arithmetic of vectors: roots, lengths, directions. -/
namespace Go.Proofs.Ytlegilbiapbfkaa
open Go.ChangeShapes Go.WideShapes Go.ChangeAt Go.RowKit
theorem half_up {a b : Int} (h : a < b) : a + 1 ≤ (a + b + 1) / 2 ∧ (a + b + 1) / 2 ≤ b := by omega
theorem sq_in {m : Int} (h0 : 0 ≤ m) (h1 : m ≤ 2000000) : 0 ≤ m * m ∧ m * m ≤ 4000000000000 :=
  ⟨Int.mul_nonneg h0 h0, sq_le h0 h1⟩
theorem mul_bd {a k : Int} (h0 : -100000000 ≤ a) (h1 : a ≤ 100000000) (k0 : 0 ≤ k) (k1 : k ≤ 2000) : -200000000000 ≤ a * k ∧ a * k ≤ 200000000000 := by
  have e1 := Int.mul_le_mul_of_nonneg_right h1 k0
  have e2 := Int.mul_le_mul_of_nonneg_right h0 k0
  omega
theorem dirT_len : dirT.length = 16 := rfl
theorem dirT_at {k : Nat} (h : k < 16) : dirT[k]? = some (dirT.getD k 0) := by
  rw [List.getD_eq_getElem?_getD, List.getElem?_eq_getElem (by rw [dirT_len]; exact h)]; rfl
theorem dir_cell (w : World) (T : TypeId) {k : Nat} (h : k < 16) : (w.alloc (.cells #[.int .i64 1000, .int .i64 924, .int .i64 707, .int .i64 383, .int .i64 0, .int .i64 (-383), .int .i64 (-707), .int .i64 (-924), .int .i64 (-1000), .int .i64 (-924), .int .i64 (-707), .int .i64 (-383), .int .i64 0, .int .i64 383, .int .i64 707, .int .i64 924] T)).cell? ⟨w.heap.size, k, none⟩ = some (.int .i64 (dirT.getD k 0)) := by
  have := (Blk.new w #[.int .i64 1000, .int .i64 924, .int .i64 707, .int .i64 383, .int .i64 0, .int .i64 (-383), .int .i64 (-707), .int .i64 (-924), .int .i64 (-1000), .int .i64 (-924), .int .i64 (-707), .int .i64 (-383), .int .i64 0, .int .i64 383, .int .i64 707, .int .i64 924] T).2 k (.int .i64 (dirT.getD k 0)) (by
    have e := dirT_at h
    have : ([.int .i64 1000, .int .i64 924, .int .i64 707, .int .i64 383, .int .i64 0, .int .i64 (-383), .int .i64 (-707), .int .i64 (-924), .int .i64 (-1000), .int .i64 (-924), .int .i64 (-707), .int .i64 (-383), .int .i64 0, .int .i64 383, .int .i64 707, .int .i64 924] : List Value) = dirT.map (.int .i64) := rfl
    show ([.int .i64 1000, .int .i64 924, .int .i64 707, .int .i64 383, .int .i64 0, .int .i64 (-383), .int .i64 (-707), .int .i64 (-924), .int .i64 (-1000), .int .i64 (-924), .int .i64 (-707), .int .i64 (-383), .int .i64 0, .int .i64 383, .int .i64 707, .int .i64 924] : List Value)[k]? = _
    rw [this, List.getElem?_map, e]; rfl)
  exact this
end Go.Proofs.Ytlegilbiapbfkaa

/- The reference's engine: how fast, where to, a tick. -/
namespace Go.Proofs.Ytlegilbiapbfkaa
open Go.ChangeShapes Go.WideShapes Go.ChangeAt Go.RowKit
theorem mulm_bd {a m : Int} (h0 : -100000 ≤ a) (h1 : a ≤ 100000) (k0 : 0 ≤ m) (k1 : m ≤ 1000000) : -100000000000 ≤ a * m ∧ a * m ≤ 100000000000 := by
  have e1 := Int.mul_le_mul_of_nonneg_right h1 k0
  have e2 := Int.mul_le_mul_of_nonneg_right h0 k0
  omega
theorem tdiv_bd {a b B : Int} (h : -B ≤ a ∧ a ≤ B) : -B ≤ a.tdiv b ∧ a.tdiv b ≤ B := by
  have := tdiv_abs a b
  omega
theorem natAbs_bd {a B : Int} (h : a.natAbs ≤ B.natAbs) (hB : 0 ≤ B) : -B ≤ a ∧ a ≤ B := by omega
theorem push_bd {d : Int} (h0 : 0 ≤ d) (h1 : d ≤ 15) : -1000 ≤ (scaleV (dirV d) 200).x ∧ (scaleV (dirV d) 200).x ≤ 1000 ∧ -1000 ≤ (scaleV (dirV d) 200).y ∧ (scaleV (dirV d) 200).y ≤ 1000 := by
  obtain ⟨a, b, c, e⟩ := dirV_bd h0 h1
  have hx := mul1_abs (a := (dirV d).x) (k := 200) (by omega) (by omega)
  have hy := mul1_abs (a := (dirV d).y) (k := 200) (by omega) (by omega)
  simp only [scaleV]
  omega
end Go.Proofs.Ytlegilbiapbfkaa

/- The reference's inputs: what is forbidden, what follows, what is legal; valid levels. -/
namespace Go.Proofs.Ytlegilbiapbfkaa
open Go.ChangeShapes Go.WideShapes Go.ChangeAt Go.RowKit
theorem inpOk_s {x : Inp} (h : inpOk x = true) : -1 ≤ x.s ∧ x.s ≤ 1 := by
  have := inpOk_bd h; omega
theorem pausesOf_succ {l : List Inp} {k : Nat} {x : Inp} (hx : l[k]? = some x) : pausesOf (l.take (k + 1)) = pausesOf (l.take k) + (if x.z then 1 else 0) := by
  unfold pausesOf
  rw [List.take_add_one, hx, List.filter_append, List.length_append]
  cases hz : x.z <;> simp [hz]
theorem pausesOf_bd (l : List Inp) (k : Nat) : 0 ≤ pausesOf (l.take k) ∧ pausesOf (l.take k) ≤ k := by
  unfold pausesOf
  have h1 := List.length_filter_le (fun x : Inp => x.z) (l.take k)
  have h2 := List.length_take_le k l
  omega
theorem steerOf_succ {l : List Inp} {k : Nat} {x : Inp} (hx : l[k]? = some x) : steerOf (l.take (k + 1)) = x.s := by
  unfold steerOf
  rw [List.take_add_one, hx]
  simp
theorem badAt_eq {l : Lev} {ins : List Inp} {k : Nat} {x : Inp} (hx : ins[k]? = some x) : badAt l ins k = (decide (l.ticks ≤ k) || (decide (3 < pausesOf (ins.take (k + 1))) || !folB l (steerOf (ins.take k)) x)) := by
  unfold badAt; rw [hx]
theorem folB_inp {l : Lev} {s : Int} {x : Inp} (h : folB l s x = true) : inpOk x = true := by
  unfold folB at h
  rw [Bool.and_eq_true] at h
  exact h.1
/-- Ahead of a bad input each one is valid. -/
theorem steer_bd {l : Lev} {ins : List Inp} {k : Nat} (h : ∀ j, j < k → badAt l ins j = false) (hk : k ≤ ins.length) : -1 ≤ steerOf (ins.take k) ∧ steerOf (ins.take k) ≤ 1 := by
  cases k with
  | zero => simp [steerOf]
  | succ k =>
    have hx : ins[k]? = some (ins[k]'(by omega)) := List.getElem?_eq_getElem _
    rw [steerOf_succ hx]
    have hb := h k (by omega)
    rw [badAt_eq hx] at hb
    simp only [Bool.or_eq_false_iff, Bool.not_eq_false'] at hb
    exact inpOk_s (folB_inp hb.2.2)
end Go.Proofs.Ytlegilbiapbfkaa

/- The reference's l12Legal, LevelValid, InputsLegal. -/
namespace Go.Proofs.Ytlegilbiapbfkaa
open Go.ChangeShapes Go.WideShapes Go.ChangeAt Go.RowKit
end Go.Proofs.Ytlegilbiapbfkaa

/- The reference's LevelValid. -/
namespace Go.Proofs.Ytlegilbiapbfkaa
open Go.ChangeShapes Go.WideShapes Go.ChangeAt Go.RowKit
theorem bxOk_bdBx {b : Bx} (h : bxOk b = true) : bdBx b := by
  have := bxOk_bd h
  unfold bdBx bdV
  omega
theorem walls_bd {l : List Bx} (h : boxesB l = true) : ∀ b ∈ l, bdBx b := fun b hb => bxOk_bdBx (List.all_eq_true.1 h b hb)
theorem vOk_bdV {v : V2} (h : vOk v = true) : bdV v := by
  have := vOk_iff.1 h
  unfold bdV
  omega
end Go.Proofs.Ytlegilbiapbfkaa
