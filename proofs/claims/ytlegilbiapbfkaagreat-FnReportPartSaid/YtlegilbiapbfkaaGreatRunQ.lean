/- Small laws for the laws of runs. (Round B) -/
import Derived.Test.YtlegilbiapbfkaaGreatSpecN
import Derived.Test.YtlegilbiapbfkaaGreatZImpB
import Derived.Test.YtlegilbiapbfkaaGreatZDrawL
namespace Go.Proofs.YtlegilbiapbfkaaGreat
open Go.ChangeShapes Go.WideShapes Go.ChangeAt Go.RowKit
theorem Drawn.alloc {l : Lev} {A A' : Option Addr} {c c' : Nat} {ins : List Inp} {A2 : Option Addr} {c2 : Nat} {w : World} (h : Drawn l A A' c c' ins A2 c2 w) (o : Obj) : Drawn l A A' c c' ins A2 c2 (w.alloc o) := h.below (below_alloc (Below.refl _ _) o)
theorem Drawn.drew {l : Lev} {A A' : Option Addr} {c c' : Nat} {ins : List Inp} {A2 : Option Addr} {c2 : Nat} {w : World} (h : Drawn l A A' c c' ins A2 c2 w) : Drawn l A A' c c' ins A2 c2 w.drew := h.below (below_drew (Below.refl _ _))
theorem Sl.alloc' {α : Type} {w : World} {sz : Nat} {enc : α → List Value} {A : Option Addr} {n : Nat} {l : List α} (h : Sl w sz enc A n l) (o : Obj) : Sl (w.alloc o) sz enc A n l := h.below (below_alloc (Below.refl _ _) o)
theorem Sl.drew' {α : Type} {w : World} {sz : Nat} {enc : α → List Value} {A : Option Addr} {n : Nat} {l : List α} (h : Sl w sz enc A n l) : Sl w.drew sz enc A n l := h
theorem Sl.takeN {α : Type} {w : World} {sz : Nat} {enc : α → List Value} {A : Option Addr} {n m : Nat} {l : List α} (h : Sl w sz enc A n l) (hm : m ≤ n) : Sl w sz enc A m (l.take m) :=
  ⟨by rw [List.length_take, h.len]; omega, fun hp => by
    obtain ⟨b, off, e, hlt, hc⟩ := h.2 (by omega)
    exact ⟨b, off, e, hlt, fun k x hk => hc k x (by rw [List.getElem?_take] at hk; split at hk; exact hk; cases hk)⟩⟩
theorem len_take {α : Type} {l : List α} {m : Nat} (h : m ≤ l.length) : (l.take m).length = m := by rw [List.length_take]; omega
theorem runOk_no2 {l : Lev} {ins : List Inp} (h : runOk l ins = false) : 0 ≤ (if levOk l then legal l ins else 0) := by
  unfold runOk at h
  split
  · rename_i hl
    rw [hl] at h
    simp at h
    exact h
  · omega
theorem keepLv {W w' : World} {g : Nat} {t : TypeId} {v0 v1 v2 v3 v4 v5 v6 v7 v8 v9 v10 : Value} (h : Bk W g t #[v0, v1, v2, v3, v4, v5, v6, v7, v8, v9, v10]) (hb : Below W.heap.size W w') :
    w'.cell? ⟨g, 0, none⟩ = some v0 ∧ w'.cell? ⟨g, 1, none⟩ = some v1 ∧ w'.cell? ⟨g, 2, none⟩ = some v2 ∧ w'.cell? ⟨g, 3, none⟩ = some v3 ∧ w'.cell? ⟨g, 4, none⟩ = some v4 ∧ w'.cell? ⟨g, 5, none⟩ = some v5 ∧ w'.cell? ⟨g, 6, none⟩ = some v6 ∧ w'.cell? ⟨g, 7, none⟩ = some v7 ∧ w'.cell? ⟨g, 8, none⟩ = some v8 ∧ w'.cell? ⟨g, 9, none⟩ = some v9 ∧ w'.cell? ⟨g, 10, none⟩ = some v10 := (h.later hb).c11.1
end Go.Proofs.YtlegilbiapbfkaaGreat
