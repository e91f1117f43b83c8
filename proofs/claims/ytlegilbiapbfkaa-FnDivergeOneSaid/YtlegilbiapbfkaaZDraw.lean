/- Lemmas: DrA DrB DrC. -/
import Derived.Test.YtlegilbiapbfkaaZImpB
import Derived.Test.YtlegilbiapbfkaaZSpec
import Derived.Test.YtlegilbiapbfkaaZRun
import Derived.Deep.RegionLaw
import Derived.Deep.RegionHeld3
import Derived.Test.YtlegilbiapbfkaaZDrive
import Derived.Test.YtlegilbiapbfkaaZPart
import Derived.Deep.CutRange
import Derived.Deep.LoopGhost
/- Draws of inputs: l91Input, l92Next. Printed by gen/dr1.py. -/
namespace Go.Proofs.Ytlegilbiapbfkaa
open Go.ChangeShapes Go.WideShapes Go.ChangeAt Go.RowKit
theorem inpOf_sm (c : Int) : smI (inpOf c) := by
  unfold inpOf smI
  split
  · simp
  · split
    · simp only; omega
    · simp
end Go.Proofs.Ytlegilbiapbfkaa

/- Draws of levels: l91Level. -/
namespace Go.Proofs.Ytlegilbiapbfkaa
open Go.ChangeShapes Go.WideShapes Go.ChangeAt Go.RowKit
section
variable {α : Type} {w w' : World} {B : Nat} {T : TypeId} {sz : Nat} {enc : α → List Value} {v : Value} {l : List α}
theorem Own.drew (h : Own w B T sz enc v l) : Own w.drew B T sz enc v l := h
theorem Own.gk {R : Nat} (h : Own w B T sz enc v l) (hg : w.grownBy w' (some R)) (hR : R < B) : Own w' B T sz enc v l :=
  h.keptN hg fun g e e2 => by have := (h.lt g e).1; injection e2 with e2; omega
theorem Own.fars {p : Addr} (h : Own w B T sz enc v l) (hp : ∀ g, v.ownBlock = some g → g ≠ p.block) (u : Value) : Own (w.setCell p u) B T sz enc v l := by
  refine ⟨h.1, ?_⟩
  rcases h.2 with hn | ⟨g, cap, cur, rfl, hB, hgg, rest⟩
  · exact .inl hn
  · exact .inr ⟨g, cap, cur, rfl, hB, (Below.heap_setCell w p u g (hp g rfl)).trans hgg, rest⟩
/-- A narrower claim on where it lies. -/
theorem Own.up (h : Own w B T sz enc v l) {B' : Nat} (hB : ∀ g, v.ownBlock = some g → B' ≤ g) : Own w B' T sz enc v l := by
  refine ⟨h.1, ?_⟩
  rcases h.2 with hn | ⟨g, cap, cur, rfl, hb, rest⟩
  · exact .inl hn
  · exact .inr ⟨g, cap, cur, rfl, hB g rfl, rest⟩
end
theorem one_bxD : ∀ y : Bx, ∀ u ∈ encBx y, u.oneCell' = true := by
  intro y u hu
  simp only [encBx, List.mem_cons, List.not_mem_nil, or_false] at hu
  rcases hu with rfl | rfl | rfl | rfl <;> rfl
theorem own_nil_bx (w : World) (B N : Nat) (T : TypeId) (hB : B ≤ w.heap.size) (hN : w.heap.size = N) : Own (w.alloc (.cells #[] T)) B T 4 encBx (.slice (some ⟨N, 0, none⟩) 0 0) [] := by
  subst hN
  exact World.ownsRow_lit (base := B) (size := 4) w #[] 0 hB (by decide) rfl
theorem keepV {w : World} {g : Nat} {t : TypeId} {a b : Value} (h : Bk w g t #[a, b]) : w.cell? ⟨g, 0, none⟩ = some a ∧ w.cell? ⟨g, 1, none⟩ = some b := ⟨h.cell 0, h.cell 1⟩
/-- A load that a drawing region is not to take first. -/
def ldOp (T : TypeId) (o : Operand) : Op := Op.load T o
attribute [local go_sem] ldOp
/-- What is known of a drawn level. -/
structure LevD (l : Lev) : Prop where
  G : LevG l
  t0 : 0 ≤ l.ticks
  t1 : l.ticks ≤ 60
  nw : l.walls.length ≤ 4
  ng : l.gates.length ≤ 3
end Go.Proofs.Ytlegilbiapbfkaa

/- Draws of runs: l92Run. -/
namespace Go.Proofs.Ytlegilbiapbfkaa
open Go.ChangeShapes Go.WideShapes Go.ChangeAt Go.RowKit
theorem Sl.one_at {α : Type} {enc : α → List Value} {sz : Nat} (w : World) (x : α) (T : TypeId) (cs : Array Value) (hcs : cs.toList = enc x) {g : Nat} (hg : w.heap.size = g) : Sl (w.alloc (.cells cs T)) sz enc (some ⟨g, 0, none⟩) 1 [x] := hg ▸ Sl.one w x T cs hcs
theorem Sl.drew {α : Type} {w : World} {sz : Nat} {enc : α → List Value} {A : Option Addr} {n : Nat} {l : List α} (h : Sl w sz enc A n l) : Sl w.drew sz enc A n l := h
section
variable {l : Lev} {A A' : Option Addr} {c c' : Nat} {R n N I S : Nat} {b : Inp} {s : St} {w u u' : World}
end
theorem gr_set1 (w : World) (p : Addr) (v : Value) : w.grownBy (w.setCell p v) (some p.block) :=
  ⟨rfl, rfl, rfl, by simp, fun k hk hn => Below.heap_setCell w p v k (fun e => hn (by rw [e]))⟩
theorem Sl.far {α : Type} {w : World} {sz : Nat} {enc : α → List Value} {A : Option Addr} {n : Nat} {l : List α} {p : Addr} (h : Sl w sz enc A n l) (hA : ∀ a, A = some a → a.block ≠ p.block) (v : Value) : Sl (w.setCell p v) sz enc A n l :=
  h.grown (gr_set1 w p v) fun a e e2 => by injection e2 with e2; exact hA a e e2.symm
section
variable {l : Lev} {A A' : Option Addr} {c c' : Nat} {R n N I S : Nat} {b : Inp} {s : St} {w u u' : World}
end
theorem legal_none' {l : Lev} {ins : List Inp} (h : legal l ins < 0) : ∀ j, j < ins.length → badAt l ins j = false := by
  rcases legal_cases l ins with ⟨_, h1⟩ | ⟨k, _, h1, _⟩
  · exact h1
  · omega
theorem steer_legal {l : Lev} {ins : List Inp} (h : legal l ins < 0) : -1 ≤ steerOf ins ∧ steerOf ins ≤ 1 := by
  have := steer_bd (legal_none' h) (Nat.le_refl _)
  rwa [List.take_length] at this
theorem keepX {w : World} {g : Nat} {t : TypeId} {a b c : Value} (h : Bk w g t #[a, b, c]) : w.cell? ⟨g, 0, none⟩ = some a ∧ w.cell? ⟨g, 1, none⟩ = some b ∧ w.cell? ⟨g, 2, none⟩ = some c := ⟨h.cell 0, h.cell 1, h.cell 2⟩
end Go.Proofs.Ytlegilbiapbfkaa
