/- Lists of inputs: are they valid and few enough? The closure handed to slices.ContainsFunc. -/
import Derived.Test.YtmfhfebakdkkdaaInps
namespace Go.Proofs.Ytmfhfebakdkkdaa
open Go.ChangeShapes Go.WideShapes Go.ChangeAt Go.RowKit
def SomeIdx (b : Bool) (w : World) (e : Ending) (w' : World) : Prop := ∃ r : Int, e = .returned (.int .i64 r) ∧ decide (0 ≤ r) = b ∧ Below w.heap.size w w'
theorem all_take {α : Type} {p : α → Bool} {l : List α} {k : Nat} {x : α} (hx : l[k]? = some x) (h : (l.take k).all p = true) (hp : p x = true) : (l.take (k + 1)).all p = true := by
  rw [List.take_add_one, hx, List.all_append, h]; simp [hp]
theorem all_not {α : Type} {p : α → Bool} {l : List α} {k : Nat} {x : α} (hx : l[k]? = some x) (hp : p x = false) : l.all p = false := by
  rw [List.all_eq_false]
  exact ⟨x, List.mem_of_getElem? hx, by simp [hp]⟩
def inputsOkB (l : List Inp) : Bool := l.all inpOk && decide (l.length ≤ 60)
theorem inputsOkB_iff {l : List Inp} : inputsOkB l = true ↔ (∀ x ∈ l, inpOk x = true) ∧ l.length ≤ 60 := by simp [inputsOkB]
end Go.Proofs.Ytmfhfebakdkkdaa
