/- The plain data and functions of the replay verifier: inputs, parts, codes. No program is named here. -/
import Derived.Test.YtmfhfebakdkkdaaMem
namespace Go.Proofs.Ytmfhfebakdkkdaa
open Go.RowKit

structure Inp where
  s : Int
  p : Int
  z : Bool
structure Prt where
  c : Int
  m : Int
def encInt (x : Int) : List Value := [.int .i64 x]
def encInp (x : Inp) : List Value := [.int .i64 x.s, .int .i64 x.p, .bool x.z]
def encPrt (x : Prt) : List Value := [.int .i64 x.c, .int .i64 x.m]
def encU8 (x : Int) : List Value := [.int .u8 x]
theorem encU8_len (x : Int) : (encU8 x).length = 1 := rfl
theorem encInt_len (x : Int) : (encInt x).length = 1 := rfl
theorem encInp_len (x : Inp) : (encInp x).length = 3 := rfl
theorem encPrt_len (x : Prt) : (encPrt x).length = 2 := rfl

/-- Are two inputs equal, field by field? -/
def eqInp (x y : Inp) : Bool := x.s == y.s && x.p == y.p && x.z == y.z
def eqPrt (x y : Prt) : Bool := x.c == y.c && x.m == y.m
def eqInt_ (x y : Int) : Bool := x == y
theorem eqInp_iff (x y : Inp) : eqInp x y = true ↔ x = y := by
  obtain ⟨a, b, c⟩ := x; obtain ⟨d, e, f⟩ := y
  simp [eqInp, and_assoc]
theorem eqPrt_iff (x y : Prt) : eqPrt x y = true ↔ x = y := by
  obtain ⟨a, b⟩ := x; obtain ⟨d, e⟩ := y
  simp [eqPrt]
theorem eqInt_iff (x y : Int) : eqInt_ x y = true ↔ x = y := by simp [eqInt_]

/-- Two lists are equal by an equality of elements. -/
def eqL {α : Type} (f : α → α → Bool) : List α → List α → Bool
  | [], [] => true
  | x :: l, y :: r => f x y && eqL f l r
  | _, _ => false
theorem eqL_iff {α : Type} {f : α → α → Bool} (hf : ∀ x y, f x y = true ↔ x = y) : ∀ l r : List α, eqL f l r = true ↔ l = r
  | [], [] => by simp [eqL]
  | x :: l, [] => by simp [eqL]
  | [], y :: r => by simp [eqL]
  | x :: l, y :: r => by simp [eqL, hf, eqL_iff hf l r]
theorem eqL_len {α : Type} {f : α → α → Bool} (hf : ∀ x y, f x y = true ↔ x = y) {l r : List α} (h : l.length ≠ r.length) : eqL f l r = false := by
  cases e : eqL f l r with
  | false => rfl
  | true => exact absurd (congrArg List.length ((eqL_iff hf l r).1 e)) h
theorem eqL_ne {α : Type} {f : α → α → Bool} (hf : ∀ x y, f x y = true ↔ x = y) {l r : List α} {k : Nat} {x y : α} (hx : l[k]? = some x) (hy : r[k]? = some y) (h : f x y = false) : eqL f l r = false := by
  cases e : eqL f l r with
  | false => rfl
  | true =>
    have := (eqL_iff hf l r).1 e
    subst this
    rw [hx] at hy
    injection hy with hy
    rw [(hf x y).2 hy] at h
    cases h
theorem take_succ_eq {α : Type} {l r : List α} {k : Nat} {x y : α} (hx : l[k]? = some x) (hy : r[k]? = some y) (h : l.take k = r.take k) (hxy : x = y) : l.take (k + 1) = r.take (k + 1) := by
  rw [List.take_add_one, List.take_add_one, h, hx, hy, hxy]
theorem eqL_all {α : Type} {f : α → α → Bool} (hf : ∀ x y, f x y = true ↔ x = y) {l r : List α} {n : Nat} (h : l.take n = r.take n) (hl : l.length = n) (hr : r.length = n) : eqL f l r = true := by
  rw [List.take_of_length_le (by omega), List.take_of_length_le (by omega)] at h
  exact (eqL_iff hf l r).2 h
/-- What the marks lay: element i out of a count K that goes up by one a field. -/
def mkInp (K : Int) : Inp := ⟨K, K + 1, (K + 1 + 1) % 3 == 0⟩
def mkPrt (K : Int) : Prt := ⟨K, K + 1⟩
def marks {α : Type} (f : Int → α) (F : Nat) (k : Int) (n : Nat) : List α := (List.range n).map fun i => f (k + (F * i : Nat))
theorem marks_len {α : Type} (f : Int → α) (F : Nat) (k : Int) (n : Nat) : (marks f F k n).length = n := by simp [marks]
theorem marks_at {α : Type} (f : Int → α) (F : Nat) (k : Int) {n i : Nat} (h : i < n) : (marks f F k n)[i]? = some (f (k + (F * i : Nat))) := by
  simp [marks, List.getElem?_range h]
theorem ret_bool {a b : Bool} (h : a = b) : Ending.returned (.bool a) = .returned (.bool b) := by rw [h]
theorem ret_int {k : IntKind} {a b : Int} (h : a = b) : Ending.returned (.int k a) = .returned (.int k b) := by rw [h]
end Go.Proofs.Ytmfhfebakdkkdaa
