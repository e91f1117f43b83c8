/- Lemmas: Mem Plain Conv ConvI Inps InpL Reps RepC App AppL Wk. -/
import Derived.Test.YtdpoicfciogfnaaDoorRows
import Derived.WalkKit
import Derived.ProofKit
import Derived.OpenShut
import Derived.Lib.Hide
import Derived.Laws.OwnMore
import Derived.Deep.QuietTactic
import Derived.BigQuiet
import Derived.Outline
import Derived.StillTailTactics
import Derived.Laws.AppendOwnNone
import Derived.OwnWalk
import Derived.Maps.AppendAt
/- Plain words for memory: a slice of structs that reads as a list; a slice of the call's own; small lemmas on worlds. No program is named here. -/
namespace Go.Proofs.YtdpoicfciogfnaaDoor
open Go.ChangeShapes Go.WideShapes Go.ChangeAt Go.RowKit

/-- The slice value '.slice A n c' holds the elements l, each of sz cells laid by enc. -/
def Sl {α : Type} (w : World) (sz : Nat) (enc : α → List Value) (A : Option Addr) (n : Nat) (l : List α) : Prop :=
  l.length = n ∧ (0 < n → ∃ b off, A = some ⟨b, off, none⟩ ∧ b < w.heap.size ∧ ∀ k x, l[k]? = some x → ∀ j v, (enc x)[j]? = some v → w.cell? ⟨b, off + k * sz + j, none⟩ = some v)

section
variable {α : Type} {w w' : World} {sz : Nat} {enc : α → List Value} {A : Option Addr} {n : Nat} {l : List α}

theorem Sl.len (h : Sl w sz enc A n l) : l.length = n := h.1

theorem Sl.below (h : Sl w sz enc A n l) (hb : Below w.heap.size w w') : Sl w' sz enc A n l :=
  ⟨h.1, fun hn => by
    obtain ⟨b, off, e, hlt, hc⟩ := h.2 hn
    exact ⟨b, off, e, Nat.lt_of_lt_of_le hlt hb.size, fun k x hk j v hv => (hb.cell hlt).trans (hc k x hk j v hv)⟩⟩

/-- It stays where block number C alone has been written and the slice lies in another block. -/
theorem Sl.grown (h : Sl w sz enc A n l) {row : Option Nat} (hg : w.grownBy w' row) (hne : ∀ a, A = some a → row ≠ some a.block) : Sl w' sz enc A n l :=
  ⟨h.1, fun hn => by
    obtain ⟨b, off, e, hlt, hc⟩ := h.2 hn
    exact ⟨b, off, e, Nat.lt_of_lt_of_le hlt hg.size, fun k x hk j v hv => hg.cell (hc k x hk j v hv) (fun e2 => hne _ e e2.symm)⟩⟩

theorem Sl.at_ {k : Nat} (h : Sl w sz enc A n l) (hk : k < n) : ∃ b off x, A = some ⟨b, off, none⟩ ∧ b < w.heap.size ∧ l[k]? = some x ∧ ∀ j v, (enc x)[j]? = some v → w.cell? ⟨b, off + k * sz + j, none⟩ = some v := by
  obtain ⟨b, off, e, hlt, hc⟩ := h.2 (by omega)
  have hx : l[k]? = some (l[k]'(by have := h.1; omega)) := List.getElem?_eq_getElem _
  exact ⟨b, off, _, e, hlt, hx, hc k _ hx⟩

theorem Sl.nil : Sl w sz enc A 0 [] := ⟨rfl, fun h => absurd h (by omega)⟩
end

theorem flatMap_at {α : Type} {enc : α → List Value} {sz : Nat} (he : ∀ x, (enc x).length = sz) : ∀ (l : List α) (k : Nat) (x : α) (j : Nat) (v : Value), l[k]? = some x → (enc x)[j]? = some v → (l.flatMap enc)[k * sz + j]? = some v
  | [], k, x, j, v, hk, _ => by simp at hk
  | a :: l, 0, x, j, v, hk, hj => by
    simp only [List.getElem?_cons_zero, Option.some.injEq] at hk
    subst hk
    rw [List.flatMap_cons, Nat.zero_mul, Nat.zero_add, List.getElem?_append_left (by exact (List.getElem?_eq_some_iff.1 hj).1)]
    exact hj
  | a :: l, k + 1, x, j, v, hk, hj => by
    simp only [List.getElem?_cons_succ] at hk
    have h1 : (enc a).length ≤ (k + 1) * sz + j := by rw [he, Nat.add_mul]; omega
    have h2 : (k + 1) * sz + j - (enc a).length = k * sz + j := by rw [he, Nat.add_mul]; omega
    rw [List.flatMap_cons, List.getElem?_append_right h1, h2]
    exact flatMap_at he l k x j v hk hj

theorem flatMap_len {α : Type} {enc : α → List Value} {sz : Nat} (he : ∀ x, (enc x).length = sz) : ∀ l : List α, (l.flatMap enc).length = l.length * sz
  | [] => by simp
  | a :: l => by rw [List.flatMap_cons, List.length_append, he, flatMap_len he l, List.length_cons, Nat.add_mul]; omega

/-- A slice of the call's own (or nil): its cells are those of l. -/
def Own {α : Type} (w : World) (B : Nat) (T : TypeId) (sz : Nat) (enc : α → List Value) (v : Value) (l : List α) : Prop := w.ownsRow B T sz v l.length (l.flatMap enc)

section
variable {α : Type} {w w' : World} {B B' : Nat} {T : TypeId} {sz : Nat} {enc : α → List Value} {v : Value} {l : List α}

theorem Own.form (h : Own w B T sz enc v l) : ∃ A c, v = .slice A l.length c ∧ l.length ≤ c ∧ (∀ a, A = some a → B ≤ a.block ∧ a.block < w.heap.size ∧ a.off = 0 ∧ a.spot = none) := by
  obtain ⟨hl, h | ⟨g, cap, cur, rfl, hb, hg, hc, _⟩⟩ := h
  · obtain ⟨rfl, h0⟩ := h
    exact ⟨none, 0, by rw [h0], by omega, fun a e => by cases e⟩
  · exact ⟨_, cap, rfl, hc, fun a e => by cases e; exact ⟨hb, (Array.getElem?_eq_some_iff.1 hg).1, rfl, rfl⟩⟩

theorem Own.sl {A : Option Addr} {n c : Nat} (he : ∀ x, (enc x).length = sz) (h : Own w B T sz enc (.slice A n c) l) : Sl w sz enc A n l := by
  have hn : n = l.length := by
    obtain ⟨A', c', e, _⟩ := h.form
    injection e
  subst hn
  refine ⟨rfl, fun hpos => ?_⟩
  rcases h.2 with h' | ⟨g, cap, cur, e, hb, hg, _⟩
  · omega
  · have hA : A = some ⟨g, 0, none⟩ := by injection e
    subst hA
    refine ⟨g, 0, rfl, (Array.getElem?_eq_some_iff.1 hg).1, fun k x hk j u hu => ?_⟩
    have := World.ownsRow.cells h (g := g) rfl (k * sz + j) u (flatMap_at he l k x j u hk hu)
    rw [Nat.zero_add]
    unfold Addr.add at this
    split at this
    · rename_i h0
      rw [h0]; exact this
    · simpa using this

theorem Own.kept {row : Option Nat} (h : Own w B T sz enc v l) (hg : w.grownBy w' row) (hne : v.ownBlock = none ∨ v.ownBlock ≠ row) : Own w' B T sz enc v l := World.ownsRow.kept h hg hne

/-- Below a number that its block lies under, nothing of it has turned. -/
theorem Own.below {b : Nat} (h : Own w B T sz enc v l) (hb : Below b w w') (hv : ∀ g, v.ownBlock = some g → g < b) : Own w' B T sz enc v l := by
  refine ⟨h.1, ?_⟩
  rcases h.2 with hn | ⟨g, cap, cur, rfl, hB, hgg, rest⟩
  · exact .inl hn
  · exact .inr ⟨g, cap, cur, rfl, hB, (hb.block g (hv g rfl)).trans hgg, rest⟩
theorem Own.lt (h : Own w B T sz enc v l) : ∀ g, v.ownBlock = some g → B ≤ g ∧ g < w.heap.size := by
  intro g hg
  rcases h.2 with ⟨rfl, _⟩ | ⟨g', cap, cur, rfl, hB, hgg, rest⟩
  · simp [Value.ownBlock] at hg
  · simp only [Value.ownBlock, Option.some.injEq] at hg
    subst hg
    exact ⟨hB, (Array.getElem?_eq_some_iff.1 hgg).1⟩
theorem Own.later (h : Own w B T sz enc v l) (hb : Below w.heap.size w w') : Own w' B T sz enc v l := h.below hb fun g hg => (h.lt g hg).2
theorem Own.mono (h : Own w B T sz enc v l) (hB : B' ≤ B) : Own w B' T sz enc v l := by
  refine ⟨h.1, ?_⟩
  rcases h.2 with hn | ⟨g, cap, cur, rfl, hb, rest⟩
  · exact .inl hn
  · exact .inr ⟨g, cap, cur, rfl, by omega, rest⟩
theorem Own.set {p : Addr} (hp : p.block < B) (h : Own w B T sz enc v l) (u : Value) : Own (w.setCell p u) B T sz enc v l := ownsRow_setCell_below h hp u
theorem Own.alloc (h : Own w B T sz enc v l) (o : Obj) : Own (w.alloc o) B T sz enc v l := World.ownsRow.alloc h o
theorem Own.none_ : Own w B T sz enc (.slice none 0 0) [] := World.ownsRow_nil ..
end

theorem below_of_grown {B : Nat} {w w' : World} {row : Option Nat} (hg : w.grownBy w' row) (hB : B ≤ w.heap.size) (hr : ∀ k, row = some k → B ≤ k) : Below B w w' := (Below.refl B w).grown hg hB hr
theorem below_drewN {B : Nat} {a w : World} (h : Below B a w) (n : Nat) : Below B a (w.drewN n) := ⟨h.os, h.tape, h.output, h.size, h.block⟩
/-- Behind a contract that speaks of what was there: the two rules by which the walk reads on. -/
theorem bcell {W w1 : World} (hb : Below W.heap.size W w1) : (∀ b o, b < W.heap.size → w1.cell? ⟨b, o, none⟩ = W.cell? ⟨b, o, none⟩) ∧ (∀ b o, b < W.heap.size → w1.frozen? ⟨b, o, none⟩ = W.frozen? ⟨b, o, none⟩) :=
  ⟨fun b o h => hb.cell (p := ⟨b, o, none⟩) h, fun b o h => hb.frozen (p := ⟨b, o, none⟩) h⟩
theorem below_after {w w1 w2 : World} (h : Below w.heap.size w w1) (h2 : Below w1.heap.size w1 w2) : Below w.heap.size w w2 := h.trans (h2.mono h.size)
theorem below_alloc {w w1 : World} (h : Below w.heap.size w w1) (o : Obj) : Below w.heap.size w (w1.alloc o) := h.alloc h.size o
theorem below_setCell {B : Nat} {w w1 : World} {p : Addr} (hp : B ≤ p.block) (h : Below B w w1) (u : Value) : Below B w (w1.setCell p u) := h.setCell hp u
theorem below_drew {B : Nat} {w w1 : World} (h : Below B w w1) : Below B w w1.drew := h.drew
theorem grown_of_below {w w' : World} {row : Option Nat} (hb : Below w.heap.size w w') : w.grownBy w' row := ⟨hb.os, hb.tape, hb.output, hb.size, fun k hk _ => hb.block k hk⟩

/-! ### a row of cells written at once -/
def setAll : List Value → Nat → List Value → List Value
  | xs, _, [] => xs
  | xs, p, v :: vs => setAll (xs.set p v) (p + 1) vs
def putAll : World → Nat → Nat → List Value → World
  | w, _, _, [] => w
  | w, g, p, v :: vs => putAll (w.setCell ⟨g, p, none⟩ v) g (p + 1) vs

theorem setAll_length : ∀ (vs xs : List Value) (p : Nat), (setAll xs p vs).length = xs.length
  | [], xs, p => rfl
  | v :: vs, xs, p => by rw [setAll, setAll_length vs, List.length_set]
theorem setAll_get : ∀ (vs xs : List Value) (p i : Nat), p + vs.length ≤ xs.length → (setAll xs p vs)[i]? = if p ≤ i ∧ i < p + vs.length then vs[i - p]? else xs[i]?
  | [], xs, p, i, _ => by rw [setAll, if_neg (by simp)]
  | v :: vs, xs, p, i, h => by
    simp only [List.length_cons] at h
    rw [setAll, setAll_get vs _ _ _ (by rw [List.length_set]; omega), List.length_cons]
    by_cases h0 : i = p
    · subst h0
      rw [if_neg (by omega), if_pos (by omega), List.getElem?_set_self (by omega), Nat.sub_self]
      rfl
    · by_cases h1 : p + 1 ≤ i ∧ i < p + 1 + vs.length
      · rw [if_pos h1, if_pos (by omega), show i - p = (i - (p + 1)) + 1 from by omega, List.getElem?_cons_succ]
      · rw [if_neg h1, if_neg (by omega), List.getElem?_set_ne (fun e => h0 e.symm)]

theorem grownBy_trans {a b c : World} {row : Option Nat} (h : a.grownBy b row) (k : b.grownBy c row) : a.grownBy c row :=
  ⟨k.os.trans h.os, k.tape.trans h.tape, k.output.trans h.output, Nat.le_trans h.size k.size, fun i hi hn => (k.block i (Nat.lt_of_lt_of_le hi h.size) hn).trans (h.block i hi hn)⟩
theorem grownBy_refl (w : World) (row : Option Nat) : w.grownBy w row := ⟨rfl, rfl, rfl, Nat.le_refl _, fun _ _ _ => rfl⟩

theorem ownsRow_putAll {base : Nat} {e : TypeId} {size g n cap : Nat} : ∀ (vs xs : List Value) (p : Nat) (w : World), w.ownsRow base e size (.slice (some ⟨g, 0, none⟩) n cap) n xs →
    (putAll w g p vs).ownsRow base e size (.slice (some ⟨g, 0, none⟩) n cap) n (setAll xs p vs) ∧ w.grownBy (putAll w g p vs) (some g)
  | [], xs, p, w, h => ⟨h, grownBy_refl _ _⟩
  | v :: vs, xs, p, w, h => by
    obtain ⟨h1, h2⟩ := h.stored p v
    obtain ⟨h3, h4⟩ := ownsRow_putAll vs _ (p + 1) _ h1
    exact ⟨h3, grownBy_trans h2 h4⟩

theorem own_slot {base : Nat} {e : TypeId} {size g n cap : Nat} {xs : List Value} {w : World} (h : w.ownsRow base e size (.slice (some ⟨g, 0, none⟩) n cap) n xs) {k : Nat} (hk : k < n) (j : Nat) (hj : j < size) :
    (∃ v, w.cell? ⟨g, k * size + j, none⟩ = some v) ∧ w.frozen? ⟨g, k * size + j, none⟩ = false := by
  have hle := Nat.mul_le_mul_right size (show k + 1 ≤ n from hk)
  rw [Nat.add_mul, Nat.one_mul] at hle
  refine ⟨?_, h.frozenAt _⟩
  rw [h.cellAt _ (by omega)]
  exact ⟨_, List.getElem?_eq_getElem (by rw [h.1]; omega)⟩

/-- What a row holds when k elements have been laid into it: these, and behind them what 'make' laid. -/
def cellsTo {α : Type} (enc : α → List Value) (sz : Nat) (l : List α) (m : List Value) (k : Nat) : List Value := (l.take k).flatMap enc ++ m.drop (k * sz)

section
variable {α : Type} {enc : α → List Value} {sz : Nat} {l : List α} {m : List Value} {k : Nat}
theorem cellsTo_zero : cellsTo enc sz l m 0 = m := by simp [cellsTo]
theorem cellsTo_all (hm : m.length = l.length * sz) : cellsTo enc sz l m l.length = l.flatMap enc := by
  rw [cellsTo, List.take_length, List.drop_of_length_le (by omega), List.append_nil]
theorem cellsTo_length (he : ∀ x, (enc x).length = sz) (hm : m.length = l.length * sz) (hk : k ≤ l.length) : (cellsTo enc sz l m k).length = l.length * sz := by
  rw [cellsTo, List.length_append, flatMap_len he, List.length_take, List.length_drop, hm, Nat.min_eq_left hk]
  have := Nat.mul_le_mul_right sz hk
  omega
theorem cellsTo_succ (he : ∀ x, (enc x).length = sz) (hm : m.length = l.length * sz) {x : α} (hx : l[k]? = some x) : setAll (cellsTo enc sz l m k) (k * sz) (enc x) = cellsTo enc sz l m (k + 1) := by
  have hk : k < l.length := (List.getElem?_eq_some_iff.1 hx).1
  have hlt : (l.take k).length = k := by rw [List.length_take]; omega
  have hlt1 : (l.take (k + 1)).length = k + 1 := by rw [List.length_take]; omega
  have hle := Nat.mul_le_mul_right sz (show k + 1 ≤ l.length from hk)
  have e1 : (k + 1) * sz = k * sz + sz := by rw [Nat.add_mul, Nat.one_mul]
  have hta : l.take (k + 1) = l.take k ++ [x] := by rw [List.take_add_one, hx]; rfl
  apply List.ext_getElem?
  intro i
  rw [setAll_get _ _ _ _ (by rw [cellsTo_length he hm (by omega), he]; omega), he]
  unfold cellsTo
  have hl1 : ((l.take k).flatMap enc).length = k * sz := by rw [flatMap_len he, hlt]
  rw [hta, List.flatMap_append]
  have hlx : ([x].flatMap enc) = enc x := by simp
  rw [hlx]
  by_cases h1 : i < k * sz
  · rw [if_neg (by omega), List.getElem?_append_left (by omega), List.getElem?_append_left (by rw [List.length_append, hl1]; omega), List.getElem?_append_left (by omega)]
  · by_cases h2 : i < k * sz + sz
    · rw [if_pos (by omega), List.getElem?_append_left (by rw [List.length_append, hl1, he]; omega), List.getElem?_append_right (by omega), hl1]
    · rw [if_neg (by omega), List.getElem?_append_right (by omega), List.getElem?_append_right (by rw [List.length_append, hl1, he]; omega), List.length_append, hl1, he, List.getElem?_drop, List.getElem?_drop]
      congr 1
      omega
end


/-- Block b holds these cells from its head on. -/
def Blk (w : World) (b : Nat) (cs : List Value) : Prop := b < w.heap.size ∧ ∀ j v, cs[j]? = some v → w.cell? ⟨b, j, none⟩ = some v
theorem Blk.new (w : World) (cs : Array Value) (T : TypeId) : Blk (w.alloc (.cells cs T)) w.heap.size cs.toList := by
  refine ⟨by simp, fun j v h => ?_⟩
  rw [cell_of_row (w.alloc (.cells cs T)) w.heap.size j cs T (0, 0) (heap_alloc_new w _)]
  simpa using h
theorem Blk.below {w w' : World} {b B : Nat} {cs : List Value} (h : Blk w b cs) (hb : Below B w w') (hB : b < B) : Blk w' b cs :=
  ⟨Nat.lt_of_lt_of_le h.1 hb.size, fun j v hv => (hb.cell (p := ⟨b, j, none⟩) hB).trans (h.2 j v hv)⟩
theorem Blk.later {w w' : World} {b : Nat} {cs : List Value} (h : Blk w b cs) (hb : Below w.heap.size w w') : Blk w' b cs := h.below hb h.1
theorem Blk.alloc {w : World} {b : Nat} {cs : List Value} (h : Blk w b cs) (o : Obj) : Blk (w.alloc o) b cs := h.later (below_alloc (Below.refl _ _) o)
theorem Blk.drew {w : World} {b : Nat} {cs : List Value} (h : Blk w b cs) : Blk w.drew b cs := h
theorem Blk.grown {w w' : World} {b : Nat} {cs : List Value} {row : Option Nat} (h : Blk w b cs) (hg : w.grownBy w' row) (hne : row ≠ some b) : Blk w' b cs :=
  ⟨Nat.lt_of_lt_of_le h.1 hg.size, fun j v hv => hg.cell (h.2 j v hv) (fun e => hne e.symm)⟩
theorem Blk.c1 {w : World} {b : Nat} {v0 : Value} (h : Blk w b [v0]) : w.cell? ⟨b, 0, none⟩ = some v0 := h.2 0 _ rfl
theorem Blk.c2 {w : World} {b : Nat} {v0 v1 : Value} (h : Blk w b [v0, v1]) : w.cell? ⟨b, 0, none⟩ = some v0 ∧ w.cell? ⟨b, 1, none⟩ = some v1 := ⟨h.2 0 _ rfl, h.2 1 _ rfl⟩
theorem Blk.c3 {w : World} {b : Nat} {v0 v1 v2 : Value} (h : Blk w b [v0, v1, v2]) : w.cell? ⟨b, 0, none⟩ = some v0 ∧ w.cell? ⟨b, 1, none⟩ = some v1 ∧ w.cell? ⟨b, 2, none⟩ = some v2 := ⟨h.2 0 _ rfl, h.2 1 _ rfl, h.2 2 _ rfl⟩
theorem Blk.c4 {w : World} {b : Nat} {v0 v1 v2 v3 : Value} (h : Blk w b [v0, v1, v2, v3]) : w.cell? ⟨b, 0, none⟩ = some v0 ∧ w.cell? ⟨b, 1, none⟩ = some v1 ∧ w.cell? ⟨b, 2, none⟩ = some v2 ∧ w.cell? ⟨b, 3, none⟩ = some v3 := ⟨h.2 0 _ rfl, h.2 1 _ rfl, h.2 2 _ rfl, h.2 3 _ rfl⟩
theorem Blk.c5 {w : World} {b : Nat} {v0 v1 v2 v3 v4 : Value} (h : Blk w b [v0, v1, v2, v3, v4]) : w.cell? ⟨b, 0, none⟩ = some v0 ∧ w.cell? ⟨b, 1, none⟩ = some v1 ∧ w.cell? ⟨b, 2, none⟩ = some v2 ∧ w.cell? ⟨b, 3, none⟩ = some v3 ∧ w.cell? ⟨b, 4, none⟩ = some v4 := ⟨h.2 0 _ rfl, h.2 1 _ rfl, h.2 2 _ rfl, h.2 3 _ rfl, h.2 4 _ rfl⟩
theorem Blk.c6 {w : World} {b : Nat} {v0 v1 v2 v3 v4 v5 : Value} (h : Blk w b [v0, v1, v2, v3, v4, v5]) : w.cell? ⟨b, 0, none⟩ = some v0 ∧ w.cell? ⟨b, 1, none⟩ = some v1 ∧ w.cell? ⟨b, 2, none⟩ = some v2 ∧ w.cell? ⟨b, 3, none⟩ = some v3 ∧ w.cell? ⟨b, 4, none⟩ = some v4 ∧ w.cell? ⟨b, 5, none⟩ = some v5 := ⟨h.2 0 _ rfl, h.2 1 _ rfl, h.2 2 _ rfl, h.2 3 _ rfl, h.2 4 _ rfl, h.2 5 _ rfl⟩
theorem Blk.c9 {w : World} {b : Nat} {v0 v1 v2 v3 v4 v5 v6 v7 v8 : Value} (h : Blk w b [v0, v1, v2, v3, v4, v5, v6, v7, v8]) : w.cell? ⟨b, 0, none⟩ = some v0 ∧ w.cell? ⟨b, 1, none⟩ = some v1 ∧ w.cell? ⟨b, 2, none⟩ = some v2 ∧ w.cell? ⟨b, 3, none⟩ = some v3 ∧ w.cell? ⟨b, 4, none⟩ = some v4 ∧ w.cell? ⟨b, 5, none⟩ = some v5 ∧ w.cell? ⟨b, 6, none⟩ = some v6 ∧ w.cell? ⟨b, 7, none⟩ = some v7 ∧ w.cell? ⟨b, 8, none⟩ = some v8 := ⟨h.2 0 _ rfl, h.2 1 _ rfl, h.2 2 _ rfl, h.2 3 _ rfl, h.2 4 _ rfl, h.2 5 _ rfl, h.2 6 _ rfl, h.2 7 _ rfl, h.2 8 _ rfl⟩
theorem Blk.c11 {w : World} {b : Nat} {v0 v1 v2 v3 v4 v5 v6 v7 v8 v9 v10 : Value} (h : Blk w b [v0, v1, v2, v3, v4, v5, v6, v7, v8, v9, v10]) : w.cell? ⟨b, 0, none⟩ = some v0 ∧ w.cell? ⟨b, 1, none⟩ = some v1 ∧ w.cell? ⟨b, 2, none⟩ = some v2 ∧ w.cell? ⟨b, 3, none⟩ = some v3 ∧ w.cell? ⟨b, 4, none⟩ = some v4 ∧ w.cell? ⟨b, 5, none⟩ = some v5 ∧ w.cell? ⟨b, 6, none⟩ = some v6 ∧ w.cell? ⟨b, 7, none⟩ = some v7 ∧ w.cell? ⟨b, 8, none⟩ = some v8 ∧ w.cell? ⟨b, 9, none⟩ = some v9 ∧ w.cell? ⟨b, 10, none⟩ = some v10 := ⟨h.2 0 _ rfl, h.2 1 _ rfl, h.2 2 _ rfl, h.2 3 _ rfl, h.2 4 _ rfl, h.2 5 _ rfl, h.2 6 _ rfl, h.2 7 _ rfl, h.2 8 _ rfl, h.2 9 _ rfl, h.2 10 _ rfl⟩
/-- A call writes an own slice anew: its elements are l' now; nothing else that was there has turned. -/
def RetPut {α : Type} (B : Nat) (T : TypeId) (sz : Nat) (enc : α → List Value) (sl : Value) (l' : List α) (r : Int) (w : World) (e : Ending) (w' : World) : Prop :=
  e = .returned (.int .i64 r) ∧ Own w' B T sz enc sl l' ∧ w.grownBy w' sl.ownBlock
/-- A call hands back a slice of its own (or nil) that holds l; what was there stands. -/
def RetOwn {α : Type} (T : TypeId) (sz : Nat) (enc : α → List Value) (l : List α) (w : World) (e : Ending) (w' : World) : Prop :=
  ∃ A c, e = .returned (.slice A l.length c) ∧ l.length ≤ c ∧ Own w' w.heap.size T sz enc (.slice A l.length c) l ∧ Below w.heap.size w w'
theorem Own.sl' {α : Type} {w : World} {B : Nat} {T : TypeId} {sz : Nat} {enc : α → List Value} {A : Option Addr} {c : Nat} {l : List α} (he : ∀ x, (enc x).length = sz) (h : Own w B T sz enc (.slice A l.length c) l) : Sl w sz enc A l.length l := h.sl he
theorem Own.keptN {α : Type} {w w' : World} {B : Nat} {T : TypeId} {sz : Nat} {enc : α → List Value} {v : Value} {l : List α} {row : Option Nat} (h : Own w B T sz enc v l) (hg : w.grownBy w' row) (hne : ∀ g, v.ownBlock = some g → row ≠ some g) : Own w' B T sz enc v l :=
  h.kept hg (by
    cases e : v.ownBlock with
    | none => exact .inl rfl
    | some g => exact .inr (fun e2 => hne g e e2.symm))
theorem bl0 (B : Nat) (w : World) : Below B w w := Below.refl B w
theorem blA {w w1 : World} (h : Below w.heap.size w w1) (o : Obj) : Below w.heap.size w (w1.alloc o) := below_alloc h o
theorem blS {B : Nat} {w w1 : World} {p : Addr} (hp : B ≤ p.block) (h : Below B w w1) (u : Value) : Below B w (w1.setCell p u) := below_setCell hp h u
theorem blD {B : Nat} {w w1 : World} (h : Below B w w1) : Below B w w1.drew := below_drew h
theorem blN {B : Nat} {a w : World} (h : Below B a w) (n : Nat) : Below B a (w.drewN n) := below_drewN h n
theorem blF {w w1 w2 : World} (h : Below w.heap.size w w1) (h2 : Below w1.heap.size w1 w2) : Below w.heap.size w w2 := below_after h h2
end Go.Proofs.YtdpoicfciogfnaaDoor

/- The plain data and functions of the replay verifier: inputs, parts, codes. No program is named here. -/
namespace Go.Proofs.YtdpoicfciogfnaaDoor
open Go.RowKit

structure Inp where
  s : Int
  p : Int
  z : Bool
structure Prt where
  c : Int
  m : Int
def encInt (x : Int) : List Value := [.int .i64 x]
def encInp (x : Inp) : List Value := [.int .i64 x.s, .int .i64 x.p, .bool x.z]
def encPrt (x : Prt) : List Value := [.int .i64 x.c, .int .i64 x.m]
def encU8 (x : Int) : List Value := [.int .u8 x]
theorem encU8_len (x : Int) : (encU8 x).length = 1 := rfl
theorem encInt_len (x : Int) : (encInt x).length = 1 := rfl
theorem encInp_len (x : Inp) : (encInp x).length = 3 := rfl
theorem encPrt_len (x : Prt) : (encPrt x).length = 2 := rfl

/-- Are two inputs equal, field by field? -/
def eqInp (x y : Inp) : Bool := x.s == y.s && x.p == y.p && x.z == y.z
def eqPrt (x y : Prt) : Bool := x.c == y.c && x.m == y.m
def eqInt_ (x y : Int) : Bool := x == y
theorem eqInp_iff (x y : Inp) : eqInp x y = true ↔ x = y := by
  obtain ⟨a, b, c⟩ := x; obtain ⟨d, e, f⟩ := y
  simp [eqInp, and_assoc]
theorem eqPrt_iff (x y : Prt) : eqPrt x y = true ↔ x = y := by
  obtain ⟨a, b⟩ := x; obtain ⟨d, e⟩ := y
  simp [eqPrt]
theorem eqInt_iff (x y : Int) : eqInt_ x y = true ↔ x = y := by simp [eqInt_]

/-- Two lists are equal by an equality of elements. -/
def eqL {α : Type} (f : α → α → Bool) : List α → List α → Bool
  | [], [] => true
  | x :: l, y :: r => f x y && eqL f l r
  | _, _ => false
theorem eqL_iff {α : Type} {f : α → α → Bool} (hf : ∀ x y, f x y = true ↔ x = y) : ∀ l r : List α, eqL f l r = true ↔ l = r
  | [], [] => by simp [eqL]
  | x :: l, [] => by simp [eqL]
  | [], y :: r => by simp [eqL]
  | x :: l, y :: r => by simp [eqL, hf, eqL_iff hf l r]
theorem eqL_len {α : Type} {f : α → α → Bool} (hf : ∀ x y, f x y = true ↔ x = y) {l r : List α} (h : l.length ≠ r.length) : eqL f l r = false := by
  cases e : eqL f l r with
  | false => rfl
  | true => exact absurd (congrArg List.length ((eqL_iff hf l r).1 e)) h
theorem eqL_ne {α : Type} {f : α → α → Bool} (hf : ∀ x y, f x y = true ↔ x = y) {l r : List α} {k : Nat} {x y : α} (hx : l[k]? = some x) (hy : r[k]? = some y) (h : f x y = false) : eqL f l r = false := by
  cases e : eqL f l r with
  | false => rfl
  | true =>
    have := (eqL_iff hf l r).1 e
    subst this
    rw [hx] at hy
    injection hy with hy
    rw [(hf x y).2 hy] at h
    cases h
theorem take_succ_eq {α : Type} {l r : List α} {k : Nat} {x y : α} (hx : l[k]? = some x) (hy : r[k]? = some y) (h : l.take k = r.take k) (hxy : x = y) : l.take (k + 1) = r.take (k + 1) := by
  rw [List.take_add_one, List.take_add_one, h, hx, hy, hxy]
theorem eqL_all {α : Type} {f : α → α → Bool} (hf : ∀ x y, f x y = true ↔ x = y) {l r : List α} {n : Nat} (h : l.take n = r.take n) (hl : l.length = n) (hr : r.length = n) : eqL f l r = true := by
  rw [List.take_of_length_le (by omega), List.take_of_length_le (by omega)] at h
  exact (eqL_iff hf l r).2 h
/-- What the marks lay: element i out of a count K that goes up by one a field. -/
def mkInp (K : Int) : Inp := ⟨K, K + 1, (K + 1 + 1) % 3 == 0⟩
def mkPrt (K : Int) : Prt := ⟨K, K + 1⟩
def marks {α : Type} (f : Int → α) (F : Nat) (k : Int) (n : Nat) : List α := (List.range n).map fun i => f (k + (F * i : Nat))
theorem marks_len {α : Type} (f : Int → α) (F : Nat) (k : Int) (n : Nat) : (marks f F k n).length = n := by simp [marks]
theorem marks_at {α : Type} (f : Int → α) (F : Nat) (k : Int) {n i : Nat} (h : i < n) : (marks f F k n)[i]? = some (f (k + (F * i : Nat))) := by
  simp [marks, List.getElem?_range h]
theorem ret_bool {a b : Bool} (h : a = b) : Ending.returned (.bool a) = .returned (.bool b) := by rw [h]
theorem ret_int {k : IntKind} {a b : Int} (h : a = b) : Ending.returned (.int k a) = .returned (.int k b) := by rw [h]
end Go.Proofs.YtdpoicfciogfnaaDoor

/- The laws' own conversions, comparisons and marks: each by its contract. Written by gen_conv.py. -/
namespace Go.Proofs.YtdpoicfciogfnaaDoor
open Go.ChangeShapes Go.WideShapes Go.ChangeAt Go.RowKit
theorem toInput_any (x : Inp) (w : World) : Calls Tryd.prog 42 #[.agg #[.int .i64 x.s, .int .i64 x.p, .bool x.z]] w fun e w' => e = .returned (.agg #[.int .i64 x.s, .int .i64 x.p, .bool x.z]) ∧ Below w.heap.size w w' := by
  go_enter Tryd.func42, Tryd.ntmps42
  go_wp2
  exact bodyPost_ret (v := .agg #[.int .i64 x.s, .int .i64 x.p, .bool x.z]) (by simp [results, Tryd.results42, go_sem]) rfl ⟨rfl, by repeat (first | exact Below.refl _ _ | refine Below.alloc ?_ (by simp <;> omega) _)⟩

theorem eqInput_any (x y : Inp) (w : World) : Calls Tryd.prog 51 #[.agg #[.int .i64 x.s, .int .i64 x.p, .bool x.z], .agg #[.int .i64 y.s, .int .i64 y.p, .bool y.z]] w fun e w' => e = .returned (.bool (eqInp x y)) ∧ Below w.heap.size w w' := by
  go_enter Tryd.func51, Tryd.ntmps51
  go_wp2
  all_goals (go_ret; refine ⟨?_, by repeat (first | exact Below.refl _ _ | refine Below.alloc ?_ (by simp <;> omega) _)⟩; simp_all [eqInp])

set_option maxRecDepth 100000 in
theorem eqInputS_any (A A' : Option Addr) (n n' c c' : Nat) (l l' : List Inp) (w : World) (h : Sl w 3 encInp A n l) (h' : Sl w 3 encInp A' n' l') (hn : n ≤ 2097152) (hn' : n' ≤ 2097152) :
    Calls Tryd.prog 25 #[.slice A n c, .slice A' n' c'] w fun e w' => e = .returned (.bool (eqL eqInp l l')) ∧ Below w.heap.size w w' := by
  by_cases hnn : n = n'
  · subst hnn
    go_enter Tryd.func25, Tryd.ntmps25
    go_wp2
    go_loopw [5] (fun i wr => ∃ k : Nat, k ≤ n ∧ i = .int .i64 k ∧ l.take k = l'.take k ∧ Below w.heap.size w wr) (fun i _ => n - (intOf i).toNat)
    case atStart => exact ⟨0, Nat.zero_le _, rfl, rfl, Below.refl _ _⟩
    case round =>
      obtain ⟨k, hk, rfl, ht, hb⟩ := hrel
      by_cases hlt : k < n
      · obtain ⟨b, off, x, rfl, hbl, hx, hc⟩ := (h.below hb).at_ hlt
        obtain ⟨b', off', x', rfl, hbl', hx', hc'⟩ := (h'.below hb).at_ hlt
        have q0 : wr.cell? ⟨b, off + k * 3, none⟩ = some (.int .i64 x.s) := hc 0 _ rfl
        have q1 : wr.cell? ⟨b, off + k * 3 + 1, none⟩ = some (.int .i64 x.p) := hc 1 _ rfl
        have q2 : wr.cell? ⟨b, off + k * 3 + 2, none⟩ = some (.bool x.z) := hc 2 _ rfl
        have r0 : wr.cell? ⟨b', off' + k * 3, none⟩ = some (.int .i64 x'.s) := hc' 0 _ rfl
        have r1 : wr.cell? ⟨b', off' + k * 3 + 1, none⟩ = some (.int .i64 x'.p) := hc' 1 _ rfl
        have r2 : wr.cell? ⟨b', off' + k * 3 + 2, none⟩ = some (.bool x'.z) := hc' 2 _ rfl
        have Ht := Lib.hid ht; clear ht
        have Hx := Lib.hid hx; clear hx
        have Hx' := Lib.hid hx'; clear hx'
        clear h h' hc hc'
        go_wp2
        go_still_tail 8, (by kernel_rfl)
        change wpList _ _ _ _ _ wr.drew
        have hb2 : Below w.heap.size w wr.drew := hb.drew
        generalize wr.drew = w2 at hb2
        go_wp2_with (go_at_call 51; refine (eqInput_any _ _ _).mono ?_; rintro e w' ⟨rfl, hb1⟩)
        · have ht : (!eqInp x x') = true := by assumption
          go_ret
          exact ⟨ret_bool (eqL_ne eqInp_iff Hx.out Hx'.out (by simpa using ht)).symm, hb2.trans (hb1.mono hb2.size)⟩
        · have ht : (!eqInp x x') = false := by assumption
          go_roundw
          case rel => exact ⟨k + 1, by omega, by go_num, take_succ_eq Hx.out Hx'.out Ht.out ((eqInp_iff x x').1 (by simpa using ht)), hb2.trans (hb1.mono hb2.size)⟩
          case measure => simp [intOf]; omega
      · have hkn : k = n := by omega
        have H := Lib.hid hkn; clear hkn
        go_wp2
        go_ret
        exact ⟨ret_bool (eqL_all eqInp_iff (by rw [← H.out]; exact ht) h.1 h'.1).symm, hb⟩
  · have hnb : ((n : Int) != (n' : Int)) = true := by rw [bne_iff_ne]; omega
    go_enter Tryd.func25, Tryd.ntmps25
    go_wp2
    go_ret
    exact ⟨ret_bool (eqL_len eqInp_iff (by rw [h.1, h'.1]; exact hnn)).symm, Below.refl _ _⟩

theorem Tryd.infoInput : (Tryd.prog.info? 68).map (fun i => (i.zero, i.size, i.bytes)) = some (some (.agg #[.int .i64 0, .int .i64 0, .bool false]), 3, 24) := by kernel_rfl
set_option maxRecDepth 100000 in
theorem toInputS_any (A : Option Addr) (n c : Nat) (l : List Inp) (w : World) (h : Sl w 3 encInp A n l) (hn : n ≤ 2097152) :
    Calls Tryd.prog 20 #[.slice A n c] w (RetOwn 68 3 encInp l w) := by
  obtain rfl := h.len
  obtain ⟨i0, hi, hz0, hz1, hz2⟩ := info_parts Tryd.infoInput
  go_enter Tryd.func20, Tryd.ntmps20
  go_wp2_with (at_make; refine wpList_make_full _ rfl _ _ 28 rfl w.heap.size 68 i0 (.agg #[.int .i64 0, .int .i64 0, .bool false]) 3 Tryd.underlying28 hi hz0 hz1 _ _ _ _ l.length rfl rfl rfl rfl ?c1 ?c2 ?c3 ?_)
  case c1 => rw [hz2]; omega
  case c2 => unfold maxLen; omega
  case c3 => simp
  · intro w1 ho hg
    have hb0 : Below w.heap.size w w1 := below_of_grown hg (Nat.le_refl _) (by intro k e; cases e)
    generalize hM : (madeCells _ _).toList = M at ho
    have HM := Lib.hid ho.1
    clear hM hg
    go_wp2
    go_loopw [4] (fun i wr => ∃ k : Nat, k ≤ l.length ∧ i = .int .i64 k ∧ wr.ownsRow w.heap.size 68 3 (.slice (some ⟨w.heap.size, 0, none⟩) l.length l.length) l.length (cellsTo encInp 3 l M k) ∧ Below w.heap.size w wr) (fun i _ => l.length - (intOf i).toNat)
    case atStart => exact ⟨0, Nat.zero_le _, rfl, by rw [cellsTo_zero]; exact ho, hb0⟩
    case round =>
      obtain ⟨k, hk, rfl, ho1, hb⟩ := hrel
      by_cases hlt : k < l.length
      · obtain ⟨b, off, x, rfl, hbl, hx, hc⟩ := (h.below hb).at_ hlt
        have q0 : wr.cell? ⟨b, off + k * 3, none⟩ = some (.int .i64 x.s) := hc 0 _ rfl
        have q1 : wr.cell? ⟨b, off + k * 3 + 1, none⟩ = some (.int .i64 x.p) := hc 1 _ rfl
        have q2 : wr.cell? ⟨b, off + k * 3 + 2, none⟩ = some (.bool x.z) := hc 2 _ rfl
        have Hx := Lib.hid hx; clear hx
        clear h hc ho hb0
        go_wp2_with (go_at_call 42; refine (toInput_any _ _).mono ?_; rintro e w' ⟨rfl, hb1⟩; have ho2 := ho1.kept (row := none) (grown_of_below hb1) (.inr (by simp [Value.ownBlock])); obtain ⟨⟨v0, c0⟩, f0⟩ := own_slot ho2 hlt 0 (by omega); obtain ⟨⟨v1, c1⟩, f1⟩ := own_slot ho2 hlt 1 (by omega); obtain ⟨⟨v2, c2⟩, f2⟩ := own_slot ho2 hlt 2 (by omega); simp only [Nat.add_zero] at c0 f0)
        go_roundw
        case rel =>
          have hp := ownsRow_putAll (encInp x) _ (k * 3) w' ho2
          rw [cellsTo_succ encInp_len HM.out Hx.out] at hp
          exact ⟨k + 1, by omega, by go_num, hp.1, ((((hb.trans (hb1.mono hb.size)).setCell (Nat.le_refl _) _).setCell (Nat.le_refl _) _).setCell (Nat.le_refl _) _)⟩
        case measure => simp [intOf]; omega
      · have hkn : k = l.length := by omega
        have H := Lib.hid hkn; clear hkn
        go_wp2
        go_ret
        exact ⟨_, _, rfl, Nat.le_refl _, by rw [H.out, cellsTo_all HM.out] at ho1; exact ho1, hb⟩

set_option maxRecDepth 100000 in
theorem markInputS_any (A : Option Addr) (n c : Nat) (l : List Inp) (B : Nat) (k : Int) (w : World) (h : Own w B 68 3 encInp (.slice A n c) l) (hn : n ≤ 2097152) (hk0 : 0 ≤ k) (hk1 : k ≤ 1152921504606846976) :
    Calls Tryd.prog 33 #[.slice A n c, .int .i64 k] w (RetPut B 68 3 encInp (.slice A n c) (marks mkInp 3 k n) (k + (3 * n : Nat)) w) := by
  have hlen := h.form
  obtain ⟨A', c', e, _, hA⟩ := hlen
  simp only [Value.slice.injEq] at e
  obtain ⟨rfl, rfl, rfl⟩ := e
  have hsl := h.sl encInp_len
  have h' : w.ownsRow B 68 3 (.slice A l.length c) l.length (l.flatMap encInp) := h
  have HM := Lib.hid h'.1
  clear h
  generalize l.flatMap encInp = M at h' HM
  generalize hln : l.length = n at *
  clear hln
  go_enter Tryd.func33, Tryd.ntmps33
  go_wp2
  go_loopw [1, 5] (fun kv i wr => ∃ j : Nat, j ≤ n ∧ i = .int .i64 j ∧ kv = .int .i64 (k + (3 * j : Nat)) ∧ wr.ownsRow B 68 3 (.slice A n c) n (cellsTo encInp 3 (marks mkInp 3 k n) M j) ∧ w.grownBy wr (Value.slice A n c).ownBlock) (fun _ i _ => n - (intOf i).toNat)
  case atStart => exact ⟨0, Nat.zero_le _, rfl, by simp, by rw [cellsTo_zero]; exact h', grownBy_refl _ _⟩
  case round =>
    obtain ⟨j, hj, rfl, rfl, ho1, hg⟩ := hrel
    by_cases hlt : j < n
    · obtain ⟨b, off, x, rfl, hbl, _, _⟩ := hsl.at_ hlt
      obtain ⟨hB, hBl, hoff, _⟩ := hA _ rfl
      simp only at hoff
      subst hoff
      obtain ⟨⟨v0, c0⟩, f0⟩ := own_slot ho1 hlt 0 (by omega); obtain ⟨⟨v1, c1⟩, f1⟩ := own_slot ho1 hlt 1 (by omega); obtain ⟨⟨v2, c2⟩, f2⟩ := own_slot ho1 hlt 2 (by omega)
      simp only [Nat.add_zero] at c0 f0
      have hK : ∃ K : Int, K = k + (3 * j : Nat) := ⟨_, rfl⟩
      obtain ⟨K, hK⟩ := hK
      have HK := Lib.hid hK
      have hK0 : 0 ≤ K := by omega
      have hK1 : K ≤ 1152921504613138432 := by omega
      rw [← hK]
      clear hK h' hA hsl
      go_wp2
      go_roundw
      case rel =>
        have hp := ownsRow_putAll (encInp (mkInp K)) _ (j * 3) wr ho1
        rw [cellsTo_succ (x := mkInp K) encInp_len (by rw [marks_len]; exact HM.out) (by rw [marks_at _ _ _ hlt, ← HK.out])] at hp
        exact ⟨j + 1, by omega, by go_num, by rw [HK.out]; exact congrArg (Value.int .i64) (by omega), hp.1, grownBy_trans hg hp.2⟩
      case measure => simp [intOf]; omega
    · have hjn : j = n := by omega
      have H := Lib.hid hjn; clear hjn
      clear h' hA hsl
      go_wp2
      go_ret
      refine ⟨by rw [H.out]; rfl, ?_, hg⟩
      have hx := cellsTo_all (enc := encInp) (sz := 3) (l := marks mkInp 3 k n) (m := M) (by rw [marks_len]; exact HM.out)
      rw [marks_len] at hx
      rw [H.out, hx] at ho1
      unfold Own
      rw [marks_len]
      exact ho1

set_option maxRecDepth 100000 in
theorem heldInputS_any (A : Option Addr) (n c : Nat) (k : Int) (w : World) (h : Sl w 3 encInp A n (marks mkInp 3 k n)) (hn : n ≤ 2097152) (hk0 : 0 ≤ k) (hk1 : k ≤ 1152921504606846976) :
    Calls Tryd.prog 35 #[.slice A n c, .int .i64 k] w fun e w' => e = .returned (.int .i64 (k + (3 * n : Nat))) ∧ w = w' := by
  go_enter Tryd.func35, Tryd.ntmps35
  go_wp2
  go_loop [1, 5] (fun kv i => ∃ j : Nat, j ≤ n ∧ i = .int .i64 j ∧ kv = .int .i64 (k + (3 * j : Nat))) (fun _ i => n - (intOf i).toNat)
  case atStart => exact ⟨0, Nat.zero_le _, rfl, by simp⟩
  case round =>
    obtain ⟨j, hj, rfl, rfl⟩ := hrel
    by_cases hlt : j < n
    · obtain ⟨b, off, x, rfl, hbl, hx, hc⟩ := h.at_ hlt
      rw [marks_at _ _ _ hlt] at hx
      have hK : ∃ K : Int, K = k + (3 * j : Nat) := ⟨_, rfl⟩
      obtain ⟨K, hK⟩ := hK
      have HK := Lib.hid hK
      have hK0 : 0 ≤ K := by omega
      have hK1 : K ≤ 1152921504613138432 := by omega
      rw [← hK] at hx ⊢
      clear hK h
      simp only [Option.some.injEq] at hx
      subst hx
      have q0 : w.cell? ⟨b, off + j * 3, none⟩ = some (.int .i64 K) := hc 0 _ rfl
      have q1 : w.cell? ⟨b, off + j * 3 + 1, none⟩ = some (.int .i64 (K + 1)) := hc 1 _ rfl
      have q2 : w.cell? ⟨b, off + j * 3 + 2, none⟩ = some (.bool ((K + 1 + 1) % 3 == 0)) := hc 2 _ rfl
      clear hc
      go_wp2
      go_round
      case rel => exact ⟨j + 1, by omega, by go_num, by rw [HK.out]; exact congrArg (Value.int .i64) (by omega)⟩
      case measure => simp [intOf]; omega
    · have hjn : j = n := by omega
      have H := Lib.hid hjn; clear hjn
      go_wp2
      go_ret
      exact ⟨by rw [H.out]; exact ret_int (by omega), rfl⟩

theorem Tryd.infoPart : (Tryd.prog.info? 49).map (fun i => (i.zero, i.size, i.bytes)) = some (some (.agg #[.int .i64 0, .int .i64 0]), 2, 16) := by kernel_rfl
end Go.Proofs.YtdpoicfciogfnaaDoor

/- The laws' own conversions, comparisons and marks at lists of ints; the sizes; the comparisons of the second laws. -/
namespace Go.Proofs.YtdpoicfciogfnaaDoor
open Go.ChangeShapes Go.WideShapes Go.ChangeAt Go.RowKit
theorem int_at {w : World} {b off k : Nat} {x : Int} (hc : ∀ j v, (encInt x)[j]? = some v → w.cell? ⟨b, off + k * 1 + j, none⟩ = some v) : w.cell? ⟨b, off + k, none⟩ = some (.int .i64 x) := by
  have := hc 0 _ rfl
  simpa using this
theorem Tryd.infoInt : (Tryd.prog.info? 3).map (fun i => (i.zero, i.size, i.bytes)) = some (some (.int .i64 0), 1, 8) := by kernel_rfl
set_option maxRecDepth 100000 in
theorem toIntS_any (A : Option Addr) (n c : Nat) (l : List Int) (w : World) (h : Sl w 1 encInt A n l) (hn : n ≤ 2097152) :
    Calls Tryd.prog 21 #[.slice A n c] w (RetOwn 3 1 encInt l w) := by
  obtain rfl := h.len
  obtain ⟨i0, hi, hz0, hz1, hz2⟩ := info_parts Tryd.infoInt
  go_enter Tryd.func21, Tryd.ntmps21
  go_wp2_with (at_make; refine wpList_make_full _ rfl _ _ 23 rfl w.heap.size 3 i0 (.int .i64 0) 1 Tryd.underlying23 hi hz0 hz1 _ _ _ _ l.length rfl rfl rfl rfl ?c1 ?c2 ?c3 ?_)
  case c1 => rw [hz2]; omega
  case c2 => unfold maxLen; omega
  case c3 => simp
  · intro w1 ho hg
    have hb0 : Below w.heap.size w w1 := below_of_grown hg (Nat.le_refl _) (by intro k e; cases e)
    generalize hM : (madeCells _ _).toList = M at ho
    have HM := Lib.hid ho.1
    clear hM hg
    go_wp2
    go_loopw [4] (fun i wr => ∃ k : Nat, k ≤ l.length ∧ i = .int .i64 k ∧ wr.ownsRow w.heap.size 3 1 (.slice (some ⟨w.heap.size, 0, none⟩) l.length l.length) l.length (cellsTo encInt 1 l M k) ∧ Below w.heap.size w wr) (fun i _ => l.length - (intOf i).toNat)
    case atStart => exact ⟨0, Nat.zero_le _, rfl, by rw [cellsTo_zero]; exact ho, hb0⟩
    case round =>
      obtain ⟨k, hk, rfl, ho1, hb⟩ := hrel
      by_cases hlt : k < l.length
      · obtain ⟨b, off, x, rfl, hbl, hx, hc⟩ := (h.below hb).at_ hlt
        have q0 := int_at hc
        have Hx := Lib.hid hx; clear hx
        obtain ⟨⟨v0, c0⟩, f0⟩ := own_slot ho1 hlt 0 (by omega)
        simp only [Nat.add_zero, Nat.mul_one] at c0 f0
        clear h hc ho hb0
        go_wp2
        go_roundw
        case rel =>
          have hp := ownsRow_putAll (encInt x) _ (k * 1) wr ho1
          rw [cellsTo_succ encInt_len HM.out Hx.out] at hp
          simp only [Nat.mul_one] at hp
          exact ⟨k + 1, by omega, by go_num, hp.1, hb.setCell (Nat.le_refl _) _⟩
        case measure => simp [intOf]; omega
      · have hkn : k = l.length := by omega
        have H := Lib.hid hkn; clear hkn
        go_wp2
        go_ret
        exact ⟨_, _, rfl, Nat.le_refl _, by rw [H.out, cellsTo_all HM.out] at ho1; exact ho1, hb⟩
set_option maxRecDepth 100000 in
theorem eqIntS_any (A A' : Option Addr) (n n' c c' : Nat) (l l' : List Int) (w : World) (h : Sl w 1 encInt A n l) (h' : Sl w 1 encInt A' n' l') (hn : n ≤ 2097152) (hn' : n' ≤ 2097152) :
    Calls Tryd.prog 26 #[.slice A n c, .slice A' n' c'] w fun e w' => e = .returned (.bool (eqL eqInt_ l l')) ∧ Below w.heap.size w w' := by
  by_cases hnn : n = n'
  · subst hnn
    go_enter Tryd.func26, Tryd.ntmps26
    go_wp2
    go_loopw [5] (fun i wr => ∃ k : Nat, k ≤ n ∧ i = .int .i64 k ∧ l.take k = l'.take k ∧ Below w.heap.size w wr) (fun i _ => n - (intOf i).toNat)
    case atStart => exact ⟨0, Nat.zero_le _, rfl, rfl, Below.refl _ _⟩
    case round =>
      obtain ⟨k, hk, rfl, ht, hb⟩ := hrel
      by_cases hlt : k < n
      · obtain ⟨b, off, x, rfl, hbl, hx, hc⟩ := (h.below hb).at_ hlt
        obtain ⟨b', off', x', rfl, hbl', hx', hc'⟩ := (h'.below hb).at_ hlt
        have q0 := int_at hc
        have r0 := int_at hc'
        have hlti : (k : Int) < (n : Int) := by omega
        have Ht := Lib.hid ht; clear ht
        have Hx := Lib.hid hx; clear hx
        have Hx' := Lib.hid hx'; clear hx'
        clear h h' hc hc'
        cases hq : (x != x') with
        | true =>
          go_wp2
          go_quiet (fail)
          go_wp2
          go_ret
          exact ⟨ret_bool (eqL_ne eqInt_iff Hx.out Hx'.out (by simpa [eqInt_] using hq)).symm, by repeat (first | exact hb | refine below_drewN ?_ _)⟩
        | false =>
          go_wp2
          go_quiet (fail)
          go_wp2
          go_roundw
          case rel => exact ⟨k + 1, by omega, by go_num, take_succ_eq Hx.out Hx'.out Ht.out (by simpa using hq), by repeat (first | exact hb | refine below_drewN ?_ _)⟩
          case measure => simp [intOf]; omega
      · have hkn : k = n := by omega
        have H := Lib.hid hkn; clear hkn
        go_wp2
        go_ret
        exact ⟨ret_bool (eqL_all eqInt_iff (by rw [← H.out]; exact ht) h.1 h'.1).symm, hb⟩
  · have hnb : ((n : Int) != (n' : Int)) = true := by rw [bne_iff_ne]; omega
    go_enter Tryd.func26, Tryd.ntmps26
    go_wp2
    go_ret
    exact ⟨ret_bool (eqL_len eqInt_iff (by rw [h.1, h'.1]; exact hnn)).symm, Below.refl _ _⟩
def mkInt (K : Int) : Int := K
set_option maxRecDepth 100000 in
theorem markIntS_any (A : Option Addr) (n c : Nat) (l : List Int) (B : Nat) (k : Int) (w : World) (h : Own w B 3 1 encInt (.slice A n c) l) (hn : n ≤ 2097152) (hk0 : 0 ≤ k) (hk1 : k ≤ 1152921504606846976) :
    Calls Tryd.prog 34 #[.slice A n c, .int .i64 k] w (RetPut B 3 1 encInt (.slice A n c) (marks mkInt 1 k n) (k + (1 * n : Nat)) w) := by
  have hlen := h.form
  obtain ⟨A', c', e, _, hA⟩ := hlen
  simp only [Value.slice.injEq] at e
  obtain ⟨rfl, rfl, rfl⟩ := e
  have hsl := h.sl encInt_len
  have h' : w.ownsRow B 3 1 (.slice A l.length c) l.length (l.flatMap encInt) := h
  have HM := Lib.hid h'.1
  clear h
  generalize l.flatMap encInt = M at h' HM
  generalize hln : l.length = n at *
  clear hln
  go_enter Tryd.func34, Tryd.ntmps34
  go_wp2
  go_loopw [1, 5] (fun kv i wr => ∃ j : Nat, j ≤ n ∧ i = .int .i64 j ∧ kv = .int .i64 (k + (1 * j : Nat)) ∧ wr.ownsRow B 3 1 (.slice A n c) n (cellsTo encInt 1 (marks mkInt 1 k n) M j) ∧ w.grownBy wr (Value.slice A n c).ownBlock) (fun _ i _ => n - (intOf i).toNat)
  case atStart => exact ⟨0, Nat.zero_le _, rfl, by simp, by rw [cellsTo_zero]; exact h', grownBy_refl _ _⟩
  case round =>
    obtain ⟨j, hj, rfl, rfl, ho1, hg⟩ := hrel
    by_cases hlt : j < n
    · obtain ⟨b, off, x, rfl, hbl, _, _⟩ := hsl.at_ hlt
      obtain ⟨hB, hBl, hoff, _⟩ := hA _ rfl
      simp only at hoff
      subst hoff
      obtain ⟨⟨v0, c0⟩, f0⟩ := own_slot ho1 hlt 0 (by omega)
      simp only [Nat.add_zero, Nat.mul_one] at c0 f0
      have hK : ∃ K : Int, K = k + (1 * j : Nat) := ⟨_, rfl⟩
      obtain ⟨K, hK⟩ := hK
      have HK := Lib.hid hK
      have hK0 : 0 ≤ K := by omega
      have hK1 : K ≤ 1152921504613138432 := by omega
      rw [← hK]
      clear hK h' hA hsl
      go_wp2
      go_roundw
      case rel =>
        have hp := ownsRow_putAll (encInt (mkInt K)) _ (j * 1) wr ho1
        rw [cellsTo_succ (x := mkInt K) encInt_len (by rw [marks_len]; exact HM.out) (by rw [marks_at _ _ _ hlt, ← HK.out])] at hp
        simp only [Nat.mul_one] at hp
        exact ⟨j + 1, by omega, by go_num, by rw [HK.out]; exact congrArg (Value.int .i64) (by omega), hp.1, grownBy_trans hg hp.2⟩
      case measure => simp [intOf]; omega
    · have hjn : j = n := by omega
      have H := Lib.hid hjn; clear hjn
      clear h' hA hsl
      go_wp2
      go_ret
      refine ⟨by rw [H.out]; rfl, ?_, hg⟩
      have hx := cellsTo_all (enc := encInt) (sz := 1) (l := marks mkInt 1 k n) (m := M) (by rw [marks_len]; exact HM.out)
      rw [marks_len] at hx
      rw [H.out, hx] at ho1
      unfold Own
      rw [marks_len]
      exact ho1
set_option maxRecDepth 100000 in
theorem heldIntS_any (A : Option Addr) (n c : Nat) (k : Int) (w : World) (h : Sl w 1 encInt A n (marks mkInt 1 k n)) (hn : n ≤ 2097152) (hk0 : 0 ≤ k) (hk1 : k ≤ 1152921504606846976) :
    Calls Tryd.prog 36 #[.slice A n c, .int .i64 k] w fun e w' => e = .returned (.int .i64 (k + (1 * n : Nat))) ∧ w = w' := by
  go_enter Tryd.func36, Tryd.ntmps36
  go_wp2
  go_loop [1, 5] (fun kv i => ∃ j : Nat, j ≤ n ∧ i = .int .i64 j ∧ kv = .int .i64 (k + (1 * j : Nat))) (fun _ i => n - (intOf i).toNat)
  case atStart => exact ⟨0, Nat.zero_le _, rfl, by simp⟩
  case round =>
    obtain ⟨j, hj, rfl, rfl⟩ := hrel
    by_cases hlt : j < n
    · obtain ⟨b, off, x, rfl, hbl, hx, hc⟩ := h.at_ hlt
      rw [marks_at _ _ _ hlt] at hx
      have hK : ∃ K : Int, K = k + (1 * j : Nat) := ⟨_, rfl⟩
      obtain ⟨K, hK⟩ := hK
      have HK := Lib.hid hK
      have hK0 : 0 ≤ K := by omega
      have hK1 : K ≤ 1152921504613138432 := by omega
      rw [← hK] at hx ⊢
      clear hK h
      simp only [Option.some.injEq, mkInt] at hx
      subst hx
      have q0 := int_at hc
      clear hc
      go_wp2
      go_round
      case rel => exact ⟨j + 1, by omega, by go_num, by rw [HK.out]; exact congrArg (Value.int .i64) (by omega)⟩
      case measure => simp [intOf]; omega
    · have hjn : j = n := by omega
      have H := Lib.hid hjn; clear hjn
      go_wp2
      go_ret
      exact ⟨by rw [H.out]; exact ret_int (by omega), rfl⟩
theorem l6In_any (n lo hi : Int) (w : World) : Calls Tryd.prog 38 #[.int .i64 n, .int .i64 lo, .int .i64 hi] w fun e w' => e = .returned (.bool (decide (lo ≤ n) && decide (n ≤ hi))) ∧ w = w' := by
  go_enter Tryd.func38, Tryd.ntmps38
  by_cases h1 : lo ≤ n <;> by_cases h2 : n ≤ hi
  all_goals
    go_wp2
    go_ret
    exact ⟨by simp [h1, h2], rfl⟩
theorem inRange_any (n lo hi : Int) (w : World) : Calls Tryd.prog 43 #[.int .i64 n, .int .i64 lo, .int .i64 hi] w fun e w' => e = .returned (.bool (decide (lo ≤ n) && decide (n ≤ hi))) ∧ w = w' := by
  go_enter Tryd.func43, Tryd.ntmps43
  by_cases h1 : lo ≤ n <;> by_cases h2 : n ≤ hi
  all_goals
    go_wp2
    go_ret
    exact ⟨by simp [h1, h2], rfl⟩
theorem l6In_yes (n lo hi : Int) (w : World) (h : lo ≤ n ∧ n ≤ hi) : Calls Tryd.prog 38 #[.int .i64 n, .int .i64 lo, .int .i64 hi] w fun e w' => e = .returned (.bool true) ∧ w = w' :=
  (l6In_any n lo hi w).mono fun e w' ⟨h1, h2⟩ => ⟨h1.trans (ret_bool (by simp [h.1, h.2])), h2⟩
theorem l6In_no (n lo hi : Int) (w : World) (h : ¬(lo ≤ n ∧ n ≤ hi)) : Calls Tryd.prog 38 #[.int .i64 n, .int .i64 lo, .int .i64 hi] w fun e w' => e = .returned (.bool false) ∧ w = w' :=
  (l6In_any n lo hi w).mono fun e w' ⟨h1, h2⟩ => ⟨h1.trans (ret_bool (by simp; omega)), h2⟩
theorem inRange_yes (n lo hi : Int) (w : World) (h : lo ≤ n ∧ n ≤ hi) : Calls Tryd.prog 43 #[.int .i64 n, .int .i64 lo, .int .i64 hi] w fun e w' => e = .returned (.bool true) ∧ w = w' :=
  (inRange_any n lo hi w).mono fun e w' ⟨h1, h2⟩ => ⟨h1.trans (ret_bool (by simp [h.1, h.2])), h2⟩
theorem inRange_no (n lo hi : Int) (w : World) (h : ¬(lo ≤ n ∧ n ≤ hi)) : Calls Tryd.prog 43 #[.int .i64 n, .int .i64 lo, .int .i64 hi] w fun e w' => e = .returned (.bool false) ∧ w = w' :=
  (inRange_any n lo hi w).mono fun e w' ⟨h1, h2⟩ => ⟨h1.trans (ret_bool (by simp; omega)), h2⟩
def szL (n : Nat) (k : Int) : Int := if k - n < 0 then -1 else k - n
theorem szL_ok {n : Nat} (h : ¬ szL n 1048576 < 0) : n ≤ 1048576 := by
  unfold szL at h; split at h <;> omega
theorem szInputS_any (A : Option Addr) (n c : Nat) (k : Int) (w : World) (hk0 : -1 ≤ k) (hk1 : k ≤ 2097152) (hn : n ≤ 9223372036854775807) :
    Calls Tryd.prog 16 #[.slice A n c, .int .i64 k] w fun e w' => e = .returned (.int .i64 (szL n k)) ∧ w = w' := by
  go_enter Tryd.func16, Tryd.ntmps16
  by_cases h : k - n < 0
  all_goals
    go_wp2
    go_ret
    exact ⟨ret_int (by unfold szL; split <;> omega), rfl⟩
theorem szIntS_any (A : Option Addr) (n c : Nat) (k : Int) (w : World) (hk0 : -1 ≤ k) (hk1 : k ≤ 2097152) (hn : n ≤ 9223372036854775807) :
    Calls Tryd.prog 17 #[.slice A n c, .int .i64 k] w fun e w' => e = .returned (.int .i64 (szL n k)) ∧ w = w' := by
  go_enter Tryd.func17, Tryd.ntmps17
  by_cases h : k - n < 0
  all_goals
    go_wp2
    go_ret
    exact ⟨ret_int (by unfold szL; split <;> omega), rfl⟩
end Go.Proofs.YtdpoicfciogfnaaDoor

/- Inputs and their codes: the reference's and the program's functions, each by its contract. -/
namespace Go.Proofs.YtdpoicfciogfnaaDoor
open Go.ChangeShapes Go.WideShapes Go.ChangeAt Go.RowKit
def inpOk (x : Inp) : Bool := if x.z then x.s == 0 && x.p == 0 else decide (-1 ≤ x.s) && decide (x.s ≤ 1) && (decide (0 ≤ x.p) && decide (x.p ≤ 2))
def code (x : Inp) : Int := if x.z then 9 else 3 * x.p + x.s + 1
theorem inpOk_bd {x : Inp} (h : inpOk x = true) : -1 ≤ x.s ∧ x.s ≤ 1 ∧ 0 ≤ x.p ∧ x.p ≤ 2 ∧ (x.z = true → x.s = 0 ∧ x.p = 0) := by
  obtain ⟨s, p, z⟩ := x
  cases z <;> simp [inpOk] at h ⊢ <;> omega

theorem specInputValid_any (x : Inp) (w : World) : Calls Tryd.prog 61 #[.agg #[.int .i64 x.s, .int .i64 x.p, .bool x.z]] w fun e w' => e = .returned (.bool (inpOk x)) ∧ Below w.heap.size w w' := by
  obtain ⟨s, p, z⟩ := x
  cases z
  all_goals
    go_enter Tryd.func61, Tryd.ntmps61
    go_wp2_with (go_at_call 38; refine (l6In_any _ _ _ _).mono ?_; rintro e w' ⟨rfl, rfl⟩)
    all_goals (go_ret; refine ⟨?_, by repeat (first | exact Below.refl _ _ | refine below_after ?_ (by assumption) | refine Below.alloc ?_ (by simp <;> omega) _)⟩; first | (simp_all [inpOk]; done) | (simp_all [inpOk]; omega))
theorem implInputValid_any (x : Inp) (w : World) : Calls Tryd.prog 66 #[.agg #[.int .i64 x.s, .int .i64 x.p, .bool x.z]] w fun e w' => e = .returned (.bool (inpOk x)) ∧ Below w.heap.size w w' := by
  obtain ⟨s, p, z⟩ := x
  cases z
  all_goals
    go_enter Tryd.func66, Tryd.ntmps66
    go_wp2_with (go_at_call 43; refine (inRange_any _ _ _ _).mono ?_; rintro e w' ⟨rfl, rfl⟩)
    all_goals (go_ret; refine ⟨?_, by repeat (first | exact Below.refl _ _ | refine below_after ?_ (by assumption) | refine Below.alloc ?_ (by simp <;> omega) _)⟩; first | (simp_all [inpOk]; done) | (simp_all [inpOk]; omega))

theorem l12Code_any (x : Inp) (w : World) (h : inpOk x = true) : Calls Tryd.prog 62 #[.agg #[.int .i64 x.s, .int .i64 x.p, .bool x.z]] w fun e w' => e = .returned (.int .i64 (code x)) ∧ Below w.heap.size w w' := by
  obtain ⟨h1, h2, h3, h4, _⟩ := inpOk_bd h
  clear h
  obtain ⟨s, p, z⟩ := x
  simp only at h1 h2 h3 h4
  cases z
  all_goals
    go_enter Tryd.func62, Tryd.ntmps62
    go_wp2
    go_ret
    exact ⟨ret_int (by simp [code]), by repeat (first | exact Below.refl _ _ | refine below_after ?_ (by assumption) | refine Below.alloc ?_ (by simp <;> omega) _)⟩
theorem implInputCode_any (x : Inp) (w : World) : Calls Tryd.prog 48 #[.agg #[.int .i64 x.s, .int .i64 x.p, .bool x.z]] w fun e w' => e = .returned (.int .i64 (if inpOk x then code x else -1)) ∧ Below w.heap.size w w' := by
  obtain ⟨s, p, z⟩ := x
  cases h : inpOk ⟨s, p, z⟩ with
  | true =>
    obtain ⟨h1, h2, h3, h4, _⟩ := inpOk_bd h
    simp only at h1 h2 h3 h4
    cases z
    · go_enter Tryd.func48, Tryd.ntmps48
      go_wp2_with (go_at_call 66; refine (implInputValid_any ⟨s, p, false⟩ _).mono ?_; rintro e w' ⟨rfl, hb⟩; have k0 : w'.cell? ⟨w.heap.size, 0, none⟩ = some (.int .i64 s) := (hb.cell (by simp)).trans (by simp); have k1 : w'.cell? ⟨w.heap.size, 1, none⟩ = some (.int .i64 p) := (hb.cell (by simp)).trans (by simp); have k2 : w'.cell? ⟨w.heap.size, 2, none⟩ = some (.bool false) := (hb.cell (by simp)).trans (by simp))
      go_ret
      exact ⟨ret_int (by simp [code]), by repeat (first | exact Below.refl _ _ | refine below_after ?_ (by assumption) | refine Below.alloc ?_ (by simp <;> omega) _)⟩
    · go_enter Tryd.func48, Tryd.ntmps48
      go_wp2_with (go_at_call 66; refine (implInputValid_any ⟨s, p, true⟩ _).mono ?_; rintro e w' ⟨rfl, hb⟩; have k2 : w'.cell? ⟨w.heap.size, 2, none⟩ = some (.bool true) := (hb.cell (by simp)).trans (by simp))
      go_ret
      exact ⟨ret_int (by simp [code]), by repeat (first | exact Below.refl _ _ | refine below_after ?_ (by assumption) | refine Below.alloc ?_ (by simp <;> omega) _)⟩
  | false =>
    go_enter Tryd.func48, Tryd.ntmps48
    go_wp2_with (go_at_call 66; refine (implInputValid_any ⟨s, p, z⟩ _).mono ?_; rintro e w' ⟨rfl, hb⟩)
    go_ret
    exact ⟨rfl, by repeat (first | exact Below.refl _ _ | refine below_after ?_ (by assumption) | refine Below.alloc ?_ (by simp <;> omega) _)⟩
/-- The input of a code; of what is no code the zero value. -/
theorem implInputCode_ok (x : Inp) (w : World) (h : inpOk x = true) : Calls Tryd.prog 48 #[.agg #[.int .i64 x.s, .int .i64 x.p, .bool x.z]] w fun e w' => e = .returned (.int .i64 (code x)) ∧ Below w.heap.size w w' :=
  (implInputCode_any x w).mono fun e w' ⟨h1, h2⟩ => ⟨by rw [h1, if_pos h], h2⟩
def inpOf (c : Int) : Inp := if c = 9 then ⟨0, 0, true⟩ else if 0 ≤ c ∧ c ≤ 8 then ⟨c % 3 - 1, c / 3, false⟩ else ⟨0, 0, false⟩
def codeOk (c : Int) : Bool := decide (0 ≤ c) && decide (c ≤ 9)
theorem specInputOf_any (c : Int) (w : World) : Calls Tryd.prog 80 #[.int .i64 c] w fun e w' => e = .returned (.tuple #[.agg #[.int .i64 (inpOf c).s, .int .i64 (inpOf c).p, .bool (inpOf c).z], .bool (codeOk c)]) ∧ Below w.heap.size w w' := by
  by_cases h0 : 0 ≤ c ∧ c ≤ 9
  · obtain ⟨h1, h2⟩ := h0
    by_cases h9 : c = 9
    · subst h9
      go_enter Tryd.func80, Tryd.ntmps80
      go_wp2_with (go_at_call 38; refine (l6In_any _ _ _ _).mono ?_; rintro e w' ⟨rfl, rfl⟩)
      exact bodyPost_ret (v := .tuple #[.agg #[.int .i64 0, .int .i64 0, .bool true], .bool true]) (by simp [results, Tryd.results80, go_sem]) rfl ⟨by simp [inpOf, codeOk], by repeat (first | exact Below.refl _ _ | refine below_after ?_ (by assumption) | refine Below.alloc ?_ (by simp <;> omega) _)⟩
    · go_enter Tryd.func80, Tryd.ntmps80
      go_wp2_with (go_at_call 38; refine (l6In_any _ _ _ _).mono ?_; rintro e w' ⟨rfl, rfl⟩)
      exact bodyPost_ret (v := .tuple #[.agg #[.int .i64 (c % 3 - 1), .int .i64 (c / 3), .bool false], .bool true]) (by simp [results, Tryd.results80, go_sem]) rfl ⟨by simp [inpOf, codeOk, h9, h1, h2, show c ≤ 8 by omega], by repeat (first | exact Below.refl _ _ | refine below_after ?_ (by assumption) | refine Below.alloc ?_ (by simp <;> omega) _)⟩
  · go_enter Tryd.func80, Tryd.ntmps80
    go_wp2_with (go_at_call 38; refine (l6In_no _ _ _ _ h0).mono ?_; rintro e w' ⟨rfl, rfl⟩)
    exact bodyPost_ret (v := .tuple #[.agg #[.int .i64 0, .int .i64 0, .bool false], .bool false]) (by simp [results, Tryd.results80, go_sem]) rfl ⟨by rw [show inpOf c = ⟨0, 0, false⟩ by unfold inpOf; rw [if_neg (by omega), if_neg (by omega)], show codeOk c = false by unfold codeOk; simp; omega], by repeat (first | exact Below.refl _ _ | refine below_after ?_ (by assumption) | refine Below.alloc ?_ (by simp <;> omega) _)⟩
theorem implInputOf_any (c : Int) (w : World) : Calls Tryd.prog 59 #[.int .i64 c] w fun e w' => e = .returned (.tuple #[.agg #[.int .i64 (inpOf c).s, .int .i64 (inpOf c).p, .bool (inpOf c).z], .bool (codeOk c)]) ∧ Below w.heap.size w w' := by
  by_cases h9 : c = 9
  · subst h9
    go_enter Tryd.func59, Tryd.ntmps59
    go_wp2_with (go_at_call 43; refine (inRange_any _ _ _ _).mono ?_; rintro e w' ⟨rfl, rfl⟩)
    exact bodyPost_ret (v := .tuple #[.agg #[.int .i64 0, .int .i64 0, .bool true], .bool true]) (by simp [results, Tryd.results59, go_sem]) rfl ⟨by simp [inpOf, codeOk], by repeat (first | exact Below.refl _ _ | refine below_after ?_ (by assumption) | refine Below.alloc ?_ (by simp <;> omega) _)⟩
  · have h9b : (c == 9) = false := by simpa using h9
    by_cases h0 : 0 ≤ c ∧ c ≤ 8
    · obtain ⟨h1, h2⟩ := h0
      go_enter Tryd.func59, Tryd.ntmps59
      go_wp2_with (go_at_call 43; refine (inRange_any _ _ _ _).mono ?_; rintro e w' ⟨rfl, rfl⟩)
      exact bodyPost_ret (v := .tuple #[.agg #[.int .i64 (c % 3 - 1), .int .i64 (c / 3), .bool false], .bool true]) (by simp [results, Tryd.results59, go_sem]) rfl ⟨by simp [inpOf, codeOk, h9, h1, h2, show c ≤ 9 by omega], by repeat (first | exact Below.refl _ _ | refine below_after ?_ (by assumption) | refine Below.alloc ?_ (by simp <;> omega) _)⟩
    · go_enter Tryd.func59, Tryd.ntmps59
      go_wp2_with (go_at_call 43; refine (inRange_no _ _ _ _ h0).mono ?_; rintro e w' ⟨rfl, rfl⟩)
      exact bodyPost_ret (v := .tuple #[.agg #[.int .i64 0, .int .i64 0, .bool false], .bool false]) (by simp [results, Tryd.results59, go_sem]) rfl ⟨by rw [show inpOf c = ⟨0, 0, false⟩ by unfold inpOf; rw [if_neg (by omega), if_neg (by omega)], show codeOk c = false by unfold codeOk; simp; omega], by repeat (first | exact Below.refl _ _ | refine below_after ?_ (by assumption) | refine Below.alloc ?_ (by simp <;> omega) _)⟩
end Go.Proofs.YtdpoicfciogfnaaDoor

/- Lists of inputs: are they valid and few enough? The closure handed to slices.ContainsFunc. -/
namespace Go.Proofs.YtdpoicfciogfnaaDoor
open Go.ChangeShapes Go.WideShapes Go.ChangeAt Go.RowKit
theorem inputsOk1_any (x : Inp) (w : World) : Calls Tryd.prog 65 #[.agg #[.int .i64 x.s, .int .i64 x.p, .bool x.z]] w fun e w' => e = .returned (.bool (!inpOk x)) ∧ Below w.heap.size w w' := by
  go_enter Tryd.func65, Tryd.ntmps65
  go_wp2_with (go_at_call 66; refine (implInputValid_any _ _).mono ?_; rintro e w' ⟨rfl, hb⟩)
  go_ret
  exact ⟨rfl, by repeat (first | exact Below.refl _ _ | refine below_after ?_ (by assumption) | refine Below.alloc ?_ (by simp <;> omega) _)⟩
def SomeIdx (b : Bool) (w : World) (e : Ending) (w' : World) : Prop := ∃ r : Int, e = .returned (.int .i64 r) ∧ decide (0 ≤ r) = b ∧ Below w.heap.size w w'
theorem all_take {α : Type} {p : α → Bool} {l : List α} {k : Nat} {x : α} (hx : l[k]? = some x) (h : (l.take k).all p = true) (hp : p x = true) : (l.take (k + 1)).all p = true := by
  rw [List.take_add_one, hx, List.all_append, h]; simp [hp]
theorem all_not {α : Type} {p : α → Bool} {l : List α} {k : Nat} {x : α} (hx : l[k]? = some x) (hp : p x = false) : l.all p = false := by
  rw [List.all_eq_false]
  exact ⟨x, List.mem_of_getElem? hx, by simp [hp]⟩
set_option maxRecDepth 100000 in
theorem indexFuncInp_any (A : Option Addr) (n c : Nat) (l : List Inp) (w : World) (h : Sl w 3 encInp A n l) (hn : n ≤ 9223372036854775807) : Calls Tryd.prog 87 #[.slice A n c, .func (.func 65) #[] #[]] w (SomeIdx (!l.all inpOk) w) := by
  obtain rfl := h.len
  go_enter Tryd.func87, Tryd.ntmps87
  go_wp2
  go_loopw [8] (fun i wr => ∃ k : Nat, k ≤ l.length ∧ i = .int .i64 k ∧ (l.take k).all inpOk = true ∧ Below w.heap.size w wr) (fun i _ => l.length - (intOf i).toNat)
  case atStart => exact ⟨0, Nat.zero_le _, rfl, rfl, Below.refl _ _⟩
  case round =>
    obtain ⟨k, hk, rfl, ht, hb⟩ := hrel
    have Ht := Lib.hid ht; clear ht
    by_cases hlt : k < l.length
    · obtain ⟨b, off, x, rfl, hbl, hx, hc⟩ := (h.below hb).at_ hlt
      have q0 : wr.cell? ⟨b, off + k * 3, none⟩ = some (.int .i64 x.s) := hc 0 _ rfl
      have q1 : wr.cell? ⟨b, off + k * 3 + 1, none⟩ = some (.int .i64 x.p) := hc 1 _ rfl
      have q2 : wr.cell? ⟨b, off + k * 3 + 2, none⟩ = some (.bool x.z) := hc 2 _ rfl
      have Hx := Lib.hid hx; clear hx
      clear h hc
      go_wp2_with (go_at_call 65; refine (inputsOk1_any _ _).mono ?_; rintro e w' ⟨rfl, hb1⟩)
      · have ht : (!inpOk x) = true := by assumption
        go_ret
        exact ⟨(k : Int), rfl, by rw [all_not Hx.out (by simpa using ht)]; simp, hb.trans (hb1.mono hb.size)⟩
      · have ht : (!inpOk x) = false := by assumption
        go_roundw
        case rel => exact ⟨k + 1, by omega, by go_num, all_take Hx.out Ht.out (by simpa using ht), hb.trans (hb1.mono hb.size)⟩
        case measure => simp [intOf]; omega
    · have hkn : l.take k = l := List.take_of_length_le (by omega)
      have H := Lib.hid hkn; clear hkn
      go_wp2
      go_ret
      exact ⟨-1, rfl, by have := Ht.out; rw [H.out] at this; rw [this]; rfl, hb⟩
theorem containsFuncInp_any (A : Option Addr) (n c : Nat) (l : List Inp) (w : World) (h : Sl w 3 encInp A n l) (hn : n ≤ 9223372036854775807) : Calls Tryd.prog 64 #[.slice A n c, .func (.func 65) #[] #[]] w fun e w' => e = .returned (.bool (!l.all inpOk)) ∧ Below w.heap.size w w' := by
  go_enter Tryd.func64, Tryd.ntmps64
  go_wp2_with (go_at_call 87; refine (indexFuncInp_any _ _ _ l _ h hn).mono ?_; rintro e w' ⟨r, rfl, hr, hb⟩; have HR := Lib.hid hr; clear hr)
  go_ret
  exact ⟨ret_bool HR.out, hb⟩
def inputsOkB (l : List Inp) : Bool := l.all inpOk && decide (l.length ≤ 60)
theorem inputsOkB_iff {l : List Inp} : inputsOkB l = true ↔ (∀ x ∈ l, inpOk x = true) ∧ l.length ≤ 60 := by simp [inputsOkB]
theorem inputsOk_any (A : Option Addr) (n c : Nat) (l : List Inp) (w : World) (h : Sl w 3 encInp A n l) (hn : n ≤ 9223372036854775807) : Calls Tryd.prog 44 #[.slice A n c] w fun e w' => e = .returned (.bool (inputsOkB l)) ∧ Below w.heap.size w w' := by
  obtain rfl := h.len
  by_cases h60 : l.length ≤ 60
  · have h60i : ((l.length : Nat) : Int) ≤ 60 := by omega
    go_enter Tryd.func44, Tryd.ntmps44
    go_wp2_with (go_at_call 64; refine (containsFuncInp_any _ _ _ l _ h hn).mono ?_; rintro e w' ⟨rfl, hb⟩)
    go_ret
    exact ⟨ret_bool (by simp [inputsOkB, h60]), hb⟩
  · have h60i : ¬ ((l.length : Nat) : Int) ≤ 60 := by omega
    go_enter Tryd.func44, Tryd.ntmps44
    go_wp2_with (go_at_call 64; refine (containsFuncInp_any _ _ _ l _ h hn).mono ?_; rintro e w' ⟨rfl, hb⟩)
    go_ret
    exact ⟨ret_bool (by simp [inputsOkB, h60]), Below.refl _ _⟩
set_option maxRecDepth 100000 in
theorem l23Inputs_any (A : Option Addr) (n c : Nat) (l : List Inp) (w : World) (h : Sl w 3 encInp A n l) (hn : n ≤ 9223372036854775807) : Calls Tryd.prog 39 #[.slice A n c] w fun e w' => e = .returned (.bool (inputsOkB l)) ∧ Below w.heap.size w w' := by
  obtain rfl := h.len
  go_enter Tryd.func39, Tryd.ntmps39
  go_wp2
  go_loopw [3] (fun i wr => ∃ k : Nat, k ≤ l.length ∧ i = .int .i64 k ∧ (l.take k).all inpOk = true ∧ Below w.heap.size w wr) (fun i _ => l.length - (intOf i).toNat)
  case atStart => exact ⟨0, Nat.zero_le _, rfl, rfl, Below.refl _ _⟩
  case round =>
    obtain ⟨k, hk, rfl, ht, hb⟩ := hrel
    have Ht := Lib.hid ht; clear ht
    by_cases hlt : k < l.length
    · obtain ⟨b, off, x, rfl, hbl, hx, hc⟩ := (h.below hb).at_ hlt
      have q0 : wr.cell? ⟨b, off + k * 3, none⟩ = some (.int .i64 x.s) := hc 0 _ rfl
      have q1 : wr.cell? ⟨b, off + k * 3 + 1, none⟩ = some (.int .i64 x.p) := hc 1 _ rfl
      have q2 : wr.cell? ⟨b, off + k * 3 + 2, none⟩ = some (.bool x.z) := hc 2 _ rfl
      have Hx := Lib.hid hx; clear hx
      clear h hc
      go_wp2_with (go_at_call 61; refine (specInputValid_any _ _).mono ?_; rintro e w' ⟨rfl, hb1⟩)
      · have ht : (!inpOk x) = true := by assumption
        go_ret
        exact ⟨ret_bool (by unfold inputsOkB; rw [all_not Hx.out (by simpa using ht)]; rfl), hb.trans (hb1.mono hb.size)⟩
      · have ht : (!inpOk x) = false := by assumption
        go_roundw
        case rel => exact ⟨k + 1, by omega, by go_num, all_take Hx.out Ht.out (by simpa using ht), hb.trans (hb1.mono hb.size)⟩
        case measure => simp [intOf]; omega
    · have hkn : l.take k = l := List.take_of_length_le (by omega)
      have H := Lib.hid hkn; clear hkn
      by_cases h60 : ((l.length : Nat) : Int) ≤ 60
      all_goals
        go_wp2
        go_ret
        exact ⟨ret_bool (by have := Ht.out; rw [H.out] at this; unfold inputsOkB; rw [this]; simp; omega), hb⟩
end Go.Proofs.YtdpoicfciogfnaaDoor

/- Replays: is one valid? -/
namespace Go.Proofs.YtdpoicfciogfnaaDoor
open Go.ChangeShapes Go.WideShapes Go.ChangeAt Go.RowKit
def inR (lo hi n : Int) : Bool := decide (lo ≤ n) && decide (n ≤ hi)
theorem inR_iff {lo hi n : Int} : inR lo hi n = true ↔ lo ≤ n ∧ n ≤ hi := by simp [inR]
theorem l6In_r (n lo hi : Int) (w : World) : Calls Tryd.prog 38 #[.int .i64 n, .int .i64 lo, .int .i64 hi] w fun e w' => e = .returned (.bool (inR lo hi n)) ∧ w = w' := l6In_any n lo hi w
theorem inRange_r (n lo hi : Int) (w : World) : Calls Tryd.prog 43 #[.int .i64 n, .int .i64 lo, .int .i64 hi] w fun e w' => e = .returned (.bool (inR lo hi n)) ∧ w = w' := inRange_any n lo hi w
structure Rep where
  lv : Int
  pl : Int
  sc : Int
  ins : List Inp
  hs : List Int
  tag : Int
def hashB (n : Int) : Bool := inR 0 1000002 n
def lenB (r : Rep) : Bool := decide (r.hs.length = r.ins.length / 5)
def replayOk (r : Rep) : Bool := inR 0 99 r.lv && (inR 0 9 r.pl && (inR 0 60 r.sc && (inputsOkB r.ins && (lenB r && (hashB r.tag && r.hs.all hashB)))))
theorem l23Hash_any (n : Int) (w : World) : Calls Tryd.prog 37 #[.int .i64 n] w fun e w' => e = .returned (.bool (hashB n)) ∧ w = w' := by
  go_enter Tryd.func37, Tryd.ntmps37
  go_wp2_with (go_at_call 38; refine (l6In_r _ _ _ _).mono ?_; rintro e w' ⟨rfl, rfl⟩)
  go_ret
  exact ⟨rfl, rfl⟩
theorem isHash_any (n : Int) (w : World) : Calls Tryd.prog 45 #[.int .i64 n] w fun e w' => e = .returned (.bool (hashB n)) ∧ w = w' := by
  go_enter Tryd.func45, Tryd.ntmps45
  go_wp2_with (go_at_call 43; refine (inRange_r _ _ _ _).mono ?_; rintro e w' ⟨rfl, rfl⟩)
  go_ret
  exact ⟨rfl, rfl⟩
theorem replayValid1_any (n : Int) (w : World) : Calls Tryd.prog 47 #[.int .i64 n] w fun e w' => e = .returned (.bool (!hashB n)) ∧ w = w' := by
  go_enter Tryd.func47, Tryd.ntmps47
  go_wp2_with (go_at_call 45; refine (isHash_any _ _).mono ?_; rintro e w' ⟨rfl, rfl⟩)
  go_ret
  exact ⟨rfl, rfl⟩
set_option maxRecDepth 100000 in
theorem indexFuncInt_any (A : Option Addr) (n c : Nat) (l : List Int) (w : World) (h : Sl w 1 encInt A n l) (hn : n ≤ 9223372036854775807) : Calls Tryd.prog 67 #[.slice A n c, .func (.func 47) #[] #[]] w (SomeIdx (!l.all hashB) w) := by
  obtain rfl := h.len
  go_enter Tryd.func67, Tryd.ntmps67
  go_wp2
  go_loop [8] (fun i => ∃ k : Nat, k ≤ l.length ∧ i = .int .i64 k ∧ (l.take k).all hashB = true) (fun i => l.length - (intOf i).toNat)
  case atStart => exact ⟨0, Nat.zero_le _, rfl, rfl⟩
  case round =>
    obtain ⟨k, hk, rfl, ht⟩ := hrel
    have Ht := Lib.hid ht; clear ht
    by_cases hlt : k < l.length
    · obtain ⟨b, off, x, rfl, hbl, hx, hc⟩ := h.at_ hlt
      have q0 := int_at hc
      have Hx := Lib.hid hx; clear hx
      clear h hc
      go_wp2_with (go_at_call 47; refine (replayValid1_any _ _).mono ?_; rintro e w' ⟨rfl, rfl⟩)
      · have ht : (!hashB x) = true := by assumption
        go_ret
        exact ⟨(k : Int), rfl, by rw [all_not Hx.out (by simpa using ht)]; simp, Below.refl _ _⟩
      · have ht : (!hashB x) = false := by assumption
        go_round
        case rel => exact ⟨k + 1, by omega, by go_num, all_take Hx.out Ht.out (by simpa using ht)⟩
        case measure => simp [intOf]; omega
    · have hkn : l.take k = l := List.take_of_length_le (by omega)
      have H := Lib.hid hkn; clear hkn
      go_wp2
      go_ret
      exact ⟨-1, rfl, by have := Ht.out; rw [H.out] at this; rw [this]; rfl, Below.refl _ _⟩
theorem containsFuncInt_any (A : Option Addr) (n c : Nat) (l : List Int) (w : World) (h : Sl w 1 encInt A n l) (hn : n ≤ 9223372036854775807) : Calls Tryd.prog 46 #[.slice A n c, .func (.func 47) #[] #[]] w fun e w' => e = .returned (.bool (!l.all hashB)) ∧ Below w.heap.size w w' := by
  go_enter Tryd.func46, Tryd.ntmps46
  go_wp2_with (go_at_call 67; refine (indexFuncInt_any _ _ _ l _ h hn).mono ?_; rintro e w' ⟨r, rfl, hr, hb⟩; have HR := Lib.hid hr; clear hr)
  go_ret
  exact ⟨ret_bool HR.out, hb⟩

set_option maxRecDepth 100000 in
theorem implReplayValid_any (A A' : Option Addr) (c c' : Nat) (r : Rep) (w : World) (h : Sl w 3 encInp A r.ins.length r.ins) (h' : Sl w 1 encInt A' r.hs.length r.hs) (hn : r.ins.length ≤ 9223372036854775807) (hn' : r.hs.length ≤ 9223372036854775807) :
    Calls Tryd.prog 22 #[.agg #[.int .i64 r.lv, .int .i64 r.pl, .int .i64 r.sc, .slice A r.ins.length c, .slice A' r.hs.length c', .int .i64 r.tag]] w fun e w' => e = .returned (.bool (replayOk r)) ∧ Below w.heap.size w w' := by
  cases hL : lenB r
  all_goals
    have h5 : ((r.hs.length : Int) == (r.ins.length : Int) / 5) = lenB r := by unfold lenB; rw [Bool.eq_iff_iff]; simp; omega
    rw [hL] at h5
    go_enter Tryd.func22, Tryd.ntmps22
    go_wp2_with (first
      | (go_at_call 43; refine (inRange_r _ _ _ _).mono ?_; rintro e w' ⟨rfl, rfl⟩)
      | (go_at_call 45; refine (isHash_any _ _).mono ?_; rintro e w' ⟨rfl, rfl⟩)
      | (go_at_call 44; refine (inputsOk_any _ _ _ r.ins _ (h.below ((Below.refl _ _).alloc (Nat.le_refl _) _)) hn).mono ?_; rintro e w' ⟨rfl, hb⟩; have k3 : w'.cell? ⟨w.heap.size, 3, none⟩ = some (.slice A r.ins.length c) := (hb.cell (by simp)).trans (by simp); have k4 : w'.cell? ⟨w.heap.size, 4, none⟩ = some (.slice A' r.hs.length c') := (hb.cell (by simp)).trans (by simp); have k5 : w'.cell? ⟨w.heap.size, 5, none⟩ = some (.int .i64 r.tag) := (hb.cell (by simp)).trans (by simp); have hb9 : Below w.heap.size w w' := below_after ((Below.refl _ _).alloc (Nat.le_refl _) _) hb)
      | (go_at_call 46; refine (containsFuncInt_any _ _ _ r.hs _ (h'.below (by assumption)) hn').mono ?_; rintro e w' ⟨rfl, hb⟩))
    all_goals (go_ret; refine ⟨ret_bool ?_, by repeat (first | exact Below.refl _ _ | refine below_after ?_ (by assumption) | refine Below.alloc ?_ (by simp <;> omega) _)⟩; simp_all [replayOk])

set_option maxRecDepth 100000 in
theorem specReplayValid_any (A A' : Option Addr) (c c' : Nat) (r : Rep) (w : World) (h : Sl w 3 encInp A r.ins.length r.ins) (h' : Sl w 1 encInt A' r.hs.length r.hs) (hn : r.ins.length ≤ 9223372036854775807) (hn' : r.hs.length ≤ 9223372036854775807) :
    Calls Tryd.prog 18 #[.agg #[.int .i64 r.lv, .int .i64 r.pl, .int .i64 r.sc, .slice A r.ins.length c, .slice A' r.hs.length c', .int .i64 r.tag]] w fun e w' => e = .returned (.bool (replayOk r)) ∧ Below w.heap.size w w' := by
  cases hL : lenB r
  all_goals
    have h5 : ((r.hs.length : Int) == (r.ins.length : Int) / 5) = lenB r := by unfold lenB; rw [Bool.eq_iff_iff]; simp; omega
    rw [hL] at h5
    have hb0 : Below w.heap.size w (w.alloc (.cells #[.int .i64 r.lv, .int .i64 r.pl, .int .i64 r.sc, .slice A r.ins.length c, .slice A' r.hs.length c', .int .i64 r.tag] 30)) := (Below.refl _ _).alloc (Nat.le_refl _) _
    go_enter Tryd.func18, Tryd.ntmps18
    go_wp2
    go_loop [3] (fun i => ∃ k : Nat, k ≤ r.hs.length ∧ i = .int .i64 k ∧ (r.hs.take k).all hashB = true) (fun i => r.hs.length - (intOf i).toNat)
    case atStart => exact ⟨0, Nat.zero_le _, rfl, rfl⟩
    case round =>
      obtain ⟨k, hk, rfl, ht⟩ := hrel
      have Ht := Lib.hid ht; clear ht
      by_cases hlt : k < r.hs.length
      · obtain ⟨b, off, x, rfl, hbl, hx, hc⟩ := (h'.below hb0).at_ hlt
        have q0 := int_at hc
        have Hx := Lib.hid hx; clear hx
        clear h' hc
        have hbne : b ≠ w.heap.size ∨ True := .inr trivial
        go_wp2_with (go_at_call 37; refine (l23Hash_any _ _).mono ?_; rintro e w' ⟨rfl, rfl⟩)
        · have ht : (!hashB x) = true := by assumption
          go_ret
          exact ⟨ret_bool (by unfold replayOk; rw [all_not Hx.out (by simpa using ht)]; simp), hb0⟩
        · have ht : (!hashB x) = false := by assumption
          go_round
          case rel => exact ⟨k + 1, by omega, by go_num, all_take Hx.out Ht.out (by simpa using ht)⟩
          case measure => simp [intOf]; omega
      · have hall : r.hs.all hashB = true := by have := Ht.out; rwa [List.take_of_length_le (by omega)] at this
        go_wp2_with (first
          | (go_at_call 38; refine (l6In_r _ _ _ _).mono ?_; rintro e w' ⟨rfl, rfl⟩)
          | (go_at_call 37; refine (l23Hash_any _ _).mono ?_; rintro e w' ⟨rfl, rfl⟩)
          | (go_at_call 39; refine (l23Inputs_any _ _ _ r.ins _ (h.below hb0) hn).mono ?_; rintro e w' ⟨rfl, hb⟩; have k3 : w'.cell? ⟨w.heap.size, 3, none⟩ = some (.slice A r.ins.length c) := (hb.cell (by simp)).trans (by simp); have k4 : w'.cell? ⟨w.heap.size, 4, none⟩ = some (.slice A' r.hs.length c') := (hb.cell (by simp)).trans (by simp); have k5 : w'.cell? ⟨w.heap.size, 5, none⟩ = some (.int .i64 r.tag) := (hb.cell (by simp)).trans (by simp); have hb9 : Below w.heap.size w w' := below_after hb0 hb))
        all_goals (go_ret; refine ⟨ret_bool ?_, by repeat (first | exact Below.refl _ _ | refine below_after ?_ (by assumption) | refine Below.alloc ?_ (by simp <;> omega) _)⟩; simp_all [replayOk])
end Go.Proofs.YtdpoicfciogfnaaDoor

/- Replays: the laws' sizes, conversions, comparisons, marks. -/
namespace Go.Proofs.YtdpoicfciogfnaaDoor
open Go.ChangeShapes Go.WideShapes Go.ChangeAt Go.RowKit
def szRep (ni nh : Nat) (k : Int) : Int := if szL ni k < 0 then -1 else szL nh (szL ni k)
theorem szL_bd {n : Nat} {k : Int} (h : k ≤ 1048576) (h0 : -1 ≤ k) : -1 ≤ szL n k ∧ szL n k ≤ 1048576 := by unfold szL; split <;> omega
theorem szL_neg {n : Nat} {k : Int} (h : k < 0) : szL n k < 0 := by unfold szL; split <;> omega
theorem szReplay_any (v0 v1 v2 v5 : Value) (A A' : Option Addr) (n n' c c' : Nat) (k : Int) (w : World) (hk0 : -1 ≤ k) (hk1 : k ≤ 1048576) (hn : n ≤ 9223372036854775807) (hn' : n' ≤ 9223372036854775807) :
    Calls Tryd.prog 6 #[.agg #[v0, v1, v2, .slice A n c, .slice A' n' c', v5], .int .i64 k] w fun e w' => e = .returned (.int .i64 (szRep n n' k)) ∧ Below w.heap.size w w' := by
  have hz := szL_bd (n := n) hk1 hk0
  by_cases hs : szL n k < 0
  · have H := Lib.hid hs
    go_enter Tryd.func6, Tryd.ntmps6
    go_wp2_with (go_at_call 16; refine (szInputS_any _ _ _ _ _ (by omega) (by omega) (by omega)).mono ?_; rintro e w' ⟨rfl, rfl⟩)
    go_ret
    exact ⟨ret_int (by unfold szRep; rw [if_pos H.out]), by repeat (first | exact Below.refl _ _ | refine Below.alloc ?_ (by simp <;> omega) _)⟩
  · have hz2 := szL_bd (n := n') hz.2 hz.1
    have H := Lib.hid hs
    by_cases hs2 : szL n' (szL n k) < 0
    all_goals
      go_enter Tryd.func6, Tryd.ntmps6
      go_wp2_with (first | (go_at_call 16; refine (szInputS_any _ _ _ _ _ (by omega) (by omega) (by omega)).mono ?_; rintro e w' ⟨rfl, rfl⟩) | (go_at_call 17; refine (szIntS_any _ _ _ _ _ (by omega) (by omega) (by omega)).mono ?_; rintro e w' ⟨rfl, rfl⟩))
      go_ret
      exact ⟨ret_int (by unfold szRep; rw [if_neg (by have := H.out; omega)]; try omega), by repeat (first | exact Below.refl _ _ | refine Below.alloc ?_ (by simp <;> omega) _)⟩
/-- A call hands back a replay whose two slices are the call's own. -/
def RetRep (r : Rep) (w : World) (e : Ending) (w' : World) : Prop :=
  ∃ A c A' c', e = .returned (.agg #[.int .i64 r.lv, .int .i64 r.pl, .int .i64 r.sc, .slice A r.ins.length c, .slice A' r.hs.length c', .int .i64 r.tag]) ∧
    Own w' w.heap.size 68 3 encInp (.slice A r.ins.length c) r.ins ∧ Own w' w.heap.size 3 1 encInt (.slice A' r.hs.length c') r.hs ∧ Below w.heap.size w w'
/-- The same, and the two slices lie apart. -/
def RetRepS (r : Rep) (w : World) (e : Ending) (w' : World) : Prop :=
  ∃ A c A' c', e = .returned (.agg #[.int .i64 r.lv, .int .i64 r.pl, .int .i64 r.sc, .slice A r.ins.length c, .slice A' r.hs.length c', .int .i64 r.tag]) ∧
    Own w' w.heap.size 68 3 encInp (.slice A r.ins.length c) r.ins ∧ Own w' w.heap.size 3 1 encInt (.slice A' r.hs.length c') r.hs ∧ Below w.heap.size w w' ∧
    (∀ g g', (Value.slice A r.ins.length c).ownBlock = some g → (Value.slice A' r.hs.length c').ownBlock = some g' → g < g')
set_option maxRecDepth 100000 in
theorem toReplay_sep (A A' : Option Addr) (c c' : Nat) (r : Rep) (w : World) (h : Sl w 3 encInp A r.ins.length r.ins) (h' : Sl w 1 encInt A' r.hs.length r.hs) (hn : r.ins.length ≤ 2097152) (hn' : r.hs.length ≤ 2097152) :
    Calls Tryd.prog 8 #[.agg #[.int .i64 r.lv, .int .i64 r.pl, .int .i64 r.sc, .slice A r.ins.length c, .slice A' r.hs.length c', .int .i64 r.tag]] w (RetRepS r w) := by
  go_enter Tryd.func8, Tryd.ntmps8
  go_wp2_with (first
    | (go_at_call 20; refine (toInputS_any _ _ _ r.ins _ (h.below ?_) hn).mono ?_; (repeat (first | (with_reducible refine below_alloc ?_ _) | (with_reducible refine below_setCell ?_ ?_ _; (simp <;> omega)) | (with_reducible refine below_drew ?_) | (with_reducible refine below_drewN ?_ _) | (with_reducible refine below_after ?_ (by assumption)) | (with_reducible exact Below.refl _ _))); rintro e w1 ⟨A1, c1, rfl, hc1, ho1, hb1⟩; obtain ⟨hcc, hff⟩ := bcell hb1; have hz1 : w.heap.size + 1 + 1 < w1.heap.size := (by have := hb1.size; simp at this; omega); have hy1 : w.heap.size + 1 < w1.heap.size := (by omega); have hx1 : w.heap.size < w1.heap.size := (by omega))
    | (go_at_call 21; refine (toIntS_any _ _ _ r.hs _ (h'.below ?_) hn').mono ?_; (repeat (first | (with_reducible refine below_alloc ?_ _) | (with_reducible refine below_setCell ?_ ?_ _; (simp <;> omega)) | (with_reducible refine below_drew ?_) | (with_reducible refine below_drewN ?_ _) | (with_reducible refine below_after ?_ (by assumption)) | (with_reducible exact Below.refl _ _))); rintro e w2 ⟨A2, c2, rfl, hc2, ho2, hb2⟩; obtain ⟨hcc2, hff2⟩ := bcell hb2; have hz2 : w.heap.size + 1 + 1 < w2.heap.size := (by have := hb2.size; simp at this; omega); have hy2 : w.heap.size + 1 < w2.heap.size := (by omega); have hx2 : w.heap.size < w2.heap.size := (by omega)))
  refine bodyPost_ret (v := .agg #[.int .i64 r.lv, .int .i64 r.pl, .int .i64 r.sc, .slice A1 r.ins.length c1, .slice A2 r.hs.length c2, .int .i64 r.tag]) (by simp [results, Tryd.results8, go_sem, hcc2, hcc, hy1]) rfl ?_
  refine ⟨A1, c1, A2, c2, rfl, ?_, ?_, by (repeat (first | (with_reducible refine below_alloc ?_ _) | (with_reducible refine below_setCell ?_ ?_ _; (simp <;> omega)) | (with_reducible refine below_drew ?_) | (with_reducible refine below_drewN ?_ _) | (with_reducible refine below_after ?_ (by assumption)) | (with_reducible exact Below.refl _ _))), ?_⟩
  · refine Own.mono (B := w.heap.size + 1 + 1 + 1) ?_ (by omega)
    have ho3 := ho1.mono (B' := w.heap.size + 1 + 1 + 1) (by simp)
    repeat (first | (with_reducible exact ho3) | (with_reducible refine Own.set ?_ ?_ _; (simp <;> omega)) | (with_reducible refine Own.later ?_ (by assumption)))
  · refine Own.mono (B := w.heap.size + 1 + 1 + 1) ?_ (by omega)
    have ho3 := ho2.mono (B' := w.heap.size + 1 + 1 + 1) (by simp; omega)
    repeat (first | (with_reducible exact ho3) | (with_reducible refine Own.set ?_ ?_ _; (simp <;> omega)) | (with_reducible refine Own.later ?_ (by assumption)))
  · intro g g' h1 h2
    have := (ho1.lt g h1).2
    have := (ho2.lt g' h2).1
    simp at this
    omega
theorem toReplay_any (A A' : Option Addr) (c c' : Nat) (r : Rep) (w : World) (h : Sl w 3 encInp A r.ins.length r.ins) (h' : Sl w 1 encInt A' r.hs.length r.hs) (hn : r.ins.length ≤ 2097152) (hn' : r.hs.length ≤ 2097152) :
    Calls Tryd.prog 8 #[.agg #[.int .i64 r.lv, .int .i64 r.pl, .int .i64 r.sc, .slice A r.ins.length c, .slice A' r.hs.length c', .int .i64 r.tag]] w (RetRep r w) :=
  (toReplay_sep A A' c c' r w h h' hn hn').mono fun _ _ ⟨A1, c1, A2, c2, h1, h2, h3, h4, _⟩ => ⟨A1, c1, A2, c2, h1, h2, h3, h4⟩
theorem eqInputS_same (A A' : Option Addr) (n n' c c' : Nat) (l : List Inp) (w : World) (h : Sl w 3 encInp A n l) (h' : Sl w 3 encInp A' n' l) (hn : n ≤ 2097152) (hn' : n' ≤ 2097152) :
    Calls Tryd.prog 25 #[.slice A n c, .slice A' n' c'] w fun e w' => e = .returned (.bool true) ∧ Below w.heap.size w w' :=
  (eqInputS_any A A' n n' c c' l l w h h' hn hn').mono fun e w' ⟨h1, h2⟩ => ⟨by rw [h1, (eqL_iff eqInp_iff l l).2 rfl], h2⟩
theorem eqIntS_same (A A' : Option Addr) (n n' c c' : Nat) (l : List Int) (w : World) (h : Sl w 1 encInt A n l) (h' : Sl w 1 encInt A' n' l) (hn : n ≤ 2097152) (hn' : n' ≤ 2097152) :
    Calls Tryd.prog 26 #[.slice A n c, .slice A' n' c'] w fun e w' => e = .returned (.bool true) ∧ Below w.heap.size w w' :=
  (eqIntS_any A A' n n' c c' l l w h h' hn hn').mono fun e w' ⟨h1, h2⟩ => ⟨by rw [h1, (eqL_iff eqInt_iff l l).2 rfl], h2⟩
set_option maxRecDepth 100000 in
theorem eqReplay_same (A A' A2 A2' : Option Addr) (c c' c2 c2' : Nat) (r : Rep) (w : World) (h : Sl w 3 encInp A r.ins.length r.ins) (h' : Sl w 1 encInt A' r.hs.length r.hs) (h2 : Sl w 3 encInp A2 r.ins.length r.ins) (h2' : Sl w 1 encInt A2' r.hs.length r.hs) (hn : r.ins.length ≤ 2097152) (hn' : r.hs.length ≤ 2097152) :
    Calls Tryd.prog 10 #[.agg #[.int .i64 r.lv, .int .i64 r.pl, .int .i64 r.sc, .slice A r.ins.length c, .slice A' r.hs.length c', .int .i64 r.tag], .agg #[.int .i64 r.lv, .int .i64 r.pl, .int .i64 r.sc, .slice A2 r.ins.length c2, .slice A2' r.hs.length c2', .int .i64 r.tag]] w
      fun e w' => e = .returned (.bool true) ∧ Below w.heap.size w w' := by
  go_enter Tryd.func10, Tryd.ntmps10
  go_wp2_with (first
    | (go_at_call 25; refine (eqInputS_same _ _ _ _ _ _ r.ins _ (h.below ?_) (h2.below ?_) hn hn).mono ?_; (repeat (first | (with_reducible refine below_alloc ?_ _) | (with_reducible refine below_setCell ?_ ?_ _; (simp <;> omega)) | (with_reducible refine below_drew ?_) | (with_reducible refine below_drewN ?_ _) | (with_reducible refine below_after ?_ (by assumption)) | (with_reducible exact Below.refl _ _))); (repeat (first | (with_reducible refine below_alloc ?_ _) | (with_reducible refine below_setCell ?_ ?_ _; (simp <;> omega)) | (with_reducible refine below_drew ?_) | (with_reducible refine below_drewN ?_ _) | (with_reducible refine below_after ?_ (by assumption)) | (with_reducible exact Below.refl _ _))); rintro e w1 ⟨rfl, hb1⟩; obtain ⟨hcc, hff⟩ := bcell hb1; have hy1 : w.heap.size + 1 < w1.heap.size := (by have := hb1.size; simp at this; omega); have hx1 : w.heap.size < w1.heap.size := (by omega))
    | (go_at_call 26; refine (eqIntS_same _ _ _ _ _ _ r.hs _ (h'.below ?_) (h2'.below ?_) hn' hn').mono ?_; (repeat (first | (with_reducible refine below_alloc ?_ _) | (with_reducible refine below_setCell ?_ ?_ _; (simp <;> omega)) | (with_reducible refine below_drew ?_) | (with_reducible refine below_drewN ?_ _) | (with_reducible refine below_after ?_ (by assumption)) | (with_reducible exact Below.refl _ _))); (repeat (first | (with_reducible refine below_alloc ?_ _) | (with_reducible refine below_setCell ?_ ?_ _; (simp <;> omega)) | (with_reducible refine below_drew ?_) | (with_reducible refine below_drewN ?_ _) | (with_reducible refine below_after ?_ (by assumption)) | (with_reducible exact Below.refl _ _))); rintro e w2 ⟨rfl, hb2⟩; obtain ⟨hcc2, hff2⟩ := bcell hb2))
  go_ret
  exact ⟨rfl, by (repeat (first | (with_reducible refine below_alloc ?_ _) | (with_reducible refine below_setCell ?_ ?_ _; (simp <;> omega)) | (with_reducible refine below_drew ?_) | (with_reducible refine below_drewN ?_ _) | (with_reducible refine below_after ?_ (by assumption)) | (with_reducible exact Below.refl _ _)))⟩
theorem keep66 {w w' : World} {N M : Nat} {v0 v1 v2 v3 v4 v5 u0 u1 u2 u3 u4 u5 : Value} (hB : Blk w N [v0, v1, v2, v3, v4, v5]) (hD : Blk w M [u0, u1, u2, u3, u4, u5]) (z : Below w.heap.size w w') : Below w.heap.size w w' ∧ w'.cell? ⟨N, 0, none⟩ = some v0 ∧ w'.cell? ⟨N, 1, none⟩ = some v1 ∧ w'.cell? ⟨N, 2, none⟩ = some v2 ∧ w'.cell? ⟨N, 3, none⟩ = some v3 ∧ w'.cell? ⟨N, 4, none⟩ = some v4 ∧ w'.cell? ⟨N, 5, none⟩ = some v5 ∧ w'.cell? ⟨M, 0, none⟩ = some u0 ∧ w'.cell? ⟨M, 1, none⟩ = some u1 ∧ w'.cell? ⟨M, 2, none⟩ = some u2 ∧ w'.cell? ⟨M, 3, none⟩ = some u3 ∧ w'.cell? ⟨M, 4, none⟩ = some u4 ∧ w'.cell? ⟨M, 5, none⟩ = some u5 := ⟨z, (hB.later z).2 0 _ rfl, (hB.later z).2 1 _ rfl, (hB.later z).2 2 _ rfl, (hB.later z).2 3 _ rfl, (hB.later z).2 4 _ rfl, (hB.later z).2 5 _ rfl, (hD.later z).2 0 _ rfl, (hD.later z).2 1 _ rfl, (hD.later z).2 2 _ rfl, (hD.later z).2 3 _ rfl, (hD.later z).2 4 _ rfl, (hD.later z).2 5 _ rfl⟩
end Go.Proofs.YtdpoicfciogfnaaDoor

/- append onto a slice of the call's own, from whatever slice reads as a list: one law; a slice literal's list. -/
namespace Go.Proofs.YtdpoicfciogfnaaDoor
open Go.ChangeShapes Go.WideShapes Go.ChangeAt Go.RowKit
theorem Sl.cells {α : Type} {w : World} {sz : Nat} {enc : α → List Value} {ad : Addr} {n : Nat} {l : List α} (he : ∀ x, (enc x).length = sz) (hsz : 0 < sz) (h : Sl w sz enc (some ad) n l) :
    ∀ j u, (l.flatMap enc)[j]? = some u → w.cell? (ad.add j) = some u := by
  intro j u hu
  have hj : j < l.length * sz := by
    have := (List.getElem?_eq_some_iff.1 hu).1
    rwa [flatMap_len he] at this
  have hk : j / sz < l.length := Nat.div_lt_of_lt_mul (by rwa [Nat.mul_comm] at hj)
  have hi : j % sz < sz := Nat.mod_lt _ hsz
  obtain ⟨b, off, x, e, hb, hx, hc⟩ := h.at_ (k := j / sz) (by rw [← h.len]; exact hk)
  injection e with e
  subst e
  have hv : (enc x)[j % sz]? = some ((enc x)[j % sz]'(by rw [he]; exact hi)) := List.getElem?_eq_getElem _
  have h1 := flatMap_at he l (j / sz) x (j % sz) _ hx hv
  have hjj : j / sz * sz + j % sz = j := by rw [Nat.mul_comm]; exact Nat.div_add_mod j sz
  rw [hjj, hu] at h1
  have h2 := hc _ _ hv
  rw [add_plain, ← hjj, ← Nat.add_assoc, h2, ← h1]
theorem wp_appS {P : Program} {w : World} {ops : Array Oper} {rest : List Oper} {o : Oper} {a : Act} {Q : Exit → Act → World → Prop} {α : Type} {enc : α → List Value} (hgd : o.guard = none) (s x : Operand) (t : TypeId)
    (ho : o.op = .call { callee := .builtin .append, args := #[s, x], argTypes := #[t, t] })
    (base : Nat) (e : TypeId) (i : TypeInfo) (z : Value) (size bytes : Nat) (ht : P.underlying t = some (.slice e)) (hi : P.info? e = some i) (hz : i.zero = some z)
    (hsize : i.size = size) (hby : i.bytes = bytes) (hzs : z.cells.size = size) (hsz : 0 < size) (he : ∀ y, (enc y).length = size) (hone : ∀ y, ∀ u ∈ enc y, u.oneCell' = true)
    (v : Value) (l l2 : List α) (hs : a.eval s = v) (hown : Own w base e size enc v l) (A : Option Addr) (m c : Nat) (hx : a.eval x = .slice A m c) (hsl : Sl w size enc A m l2) (hA : A = none → c = 0)
    (h63 : l.length + m ≤ maxLen) (hbytes : (l.length + m) * bytes ≤ 140737488355328) (hbase : base ≤ w.heap.size)
    (h : ∀ v' w', Own w' base e size enc v' (l ++ l2) → w.grownBy w' v.ownBlock → wpList P ops Q rest (a.put o.dst v') w') : wpList P ops Q (o :: rest) a w := by
  cases A with
  | none =>
    have hm : m = 0 := by
      rcases Nat.eq_zero_or_pos m with h0 | h0
      · exact h0
      · obtain ⟨b, off, e', _⟩ := hsl.2 h0
        cases e'
    have hl2 : l2 = [] := List.length_eq_zero_iff.1 (hsl.len.trans hm)
    subst hm
    rw [hA rfl] at hx
    refine wpList_append_own_none hgd s x t ho base e i size ht hi v _ _ hs hown hx (h v w ?_ (grownBy_refl _ _))
    rw [hl2, List.append_nil]
    exact hown
  | some ad =>
    have hn : l2.length = m := hsl.len
    refine wpList_append_own w hgd s x t ho base e i z size bytes ht hi hz hsize hby hzs hsz v _ _ hs hown ad m c (l2.flatMap enc) hx (by rw [flatMap_len he, hn]) (hsl.cells he hsz) ?_ h63 hbytes hbase ?_
    · intro u hu
      obtain ⟨y, _, hy⟩ := List.mem_flatMap.1 hu
      exact hone y u hy
    · intro v' w' h1 h2 _
      refine h v' w' ?_ h2
      unfold Own
      rw [List.length_append, hn, List.flatMap_append]
      exact h1
theorem Sl.one {α : Type} {enc : α → List Value} {sz : Nat} (w : World) (x : α) (T : TypeId) (cs : Array Value) (hcs : cs.toList = enc x) : Sl (w.alloc (.cells cs T)) sz enc (some ⟨w.heap.size, 0, none⟩) 1 [x] := by
  refine ⟨rfl, fun _ => ⟨w.heap.size, 0, rfl, by simp, fun k y hk j v hv => ?_⟩⟩
  have hk0 : k = 0 := by
    have := (List.getElem?_eq_some_iff.1 hk).1
    simpa using this
  subst hk0
  simp only [List.getElem?_cons_zero, Option.some.injEq] at hk
  subst hk
  have := (Blk.new w cs T).2 j v (by rw [hcs]; exact hv)
  simpa using this
theorem Own.none_cap {α : Type} {w : World} {B : Nat} {T : TypeId} {sz : Nat} {enc : α → List Value} {A : Option Addr} {n c : Nat} {l : List α} (h : Own w B T sz enc (.slice A n c) l) : A = none → c = 0 := by
  rintro rfl
  rcases h.2 with ⟨e, _⟩ | ⟨g, cap, cur, e, _⟩
  · cases e; rfl
  · cases e
theorem one_int (x : Int) : ∀ u ∈ encInt x, u.oneCell' = true := by intro u hu; simp [encInt] at hu; subst hu; rfl
theorem one_inp (x : Inp) : ∀ u ∈ encInp x, u.oneCell' = true := by intro u hu; simp [encInp] at hu; rcases hu with rfl | rfl | rfl <;> rfl
theorem one_prt (x : Prt) : ∀ u ∈ encPrt x, u.oneCell' = true := by intro u hu; simp [encPrt] at hu; rcases hu with rfl | rfl <;> rfl
end Go.Proofs.YtdpoicfciogfnaaDoor

/- append onto a slice of the call's own: one law more, that tells where the new slice lies. -/
namespace Go.Proofs.YtdpoicfciogfnaaDoor
open Go.ChangeShapes Go.WideShapes Go.ChangeAt Go.RowKit
theorem run_append_nil {P : Program} (w : World) (base : Nat) (t ty e : TypeId) (i : TypeInfo) (size : Nat) (ht : P.underlying t = some (.slice e)) (hi : P.info? e = some i)
    (v : Value) (n : Nat) (xs : List Value) (hown : w.ownsRow base e size v n xs) (c : Nat) : (Builtin.append_ #[t, t] ty #[v, .slice none 0 c]).run P w = .ok v w := by
  rcases hown.2 with ⟨rfl, rfl⟩ | ⟨g, cap, cur, rfl, _, _, hnc, _⟩
  · simp [Builtin.append_, run_underlying ht, sizeOf, typeInfo, hi, Builtin.lenOf, Builtin.firstCells]
  · simp [Builtin.append_, run_underlying ht, sizeOf, typeInfo, hi, Builtin.lenOf, Builtin.firstCells, hnc, storeCells]
section
variable {P : Program} {w : World} {α : Type} {enc : α → List Value}
theorem run_appL (t ty : TypeId)
    (base : Nat) (e : TypeId) (i : TypeInfo) (z : Value) (size bytes : Nat) (ht : P.underlying t = some (.slice e)) (hi : P.info? e = some i) (hz : i.zero = some z)
    (hsize : i.size = size) (hby : i.bytes = bytes) (hzs : z.cells.size = size) (hsz : 0 < size) (he : ∀ y, (enc y).length = size) (hone : ∀ y, ∀ u ∈ enc y, u.oneCell' = true)
    (v : Value) (l l2 : List α) (hown : Own w base e size enc v l) (A : Option Addr) (m c : Nat) (hsl : Sl w size enc A m l2)
    (h63 : l.length + m ≤ maxLen) (hbytes : (l.length + m) * bytes ≤ 140737488355328) (hbase : base ≤ w.heap.size) :
    ∃ v' w', (Builtin.append_ #[t, t] ty #[v, .slice A m c]).run P w = .ok v' w' ∧ Own w' base e size enc v' (l ++ l2) ∧ w.grownBy w' v.ownBlock ∧ (v'.ownBlock = v.ownBlock ∨ v'.ownBlock = some w.heap.size) := by
  cases A with
  | none =>
    have hm : m = 0 := by
      rcases Nat.eq_zero_or_pos m with h0 | h0
      · exact h0
      · obtain ⟨b, off, e', _⟩ := hsl.2 h0
        cases e'
    have hl2 : l2 = [] := List.length_eq_zero_iff.1 (hsl.len.trans hm)
    subst hm
    exact ⟨v, w, run_append_nil w base t ty e i size ht hi v _ _ hown c, by rw [hl2, List.append_nil]; exact hown, grownBy_refl _ _, .inl rfl⟩
  | some ad =>
    have hn : l2.length = m := hsl.len
    obtain ⟨v', w', hrun, h1, h2, _, h4⟩ := run_append_own_at (P := P) w base t ty e i z size bytes ht hi hz hsize hby hzs hsz v _ _ hown ad m c (l2.flatMap enc) (by rw [flatMap_len he, hn]) (hsl.cells he hsz) (by
      intro u hu
      obtain ⟨y, _, hy⟩ := List.mem_flatMap.1 hu
      exact hone y u hy) h63 hbytes hbase
    refine ⟨v', w', hrun, ?_, h2, h4⟩
    unfold Own
    rw [List.length_append, hn, List.flatMap_append]
    exact h1
theorem wp_append_L {o : Oper} {a : Act} {K : Act → World → Prop} {Q : Exit → Act → World → Prop} (s x : Operand) (t : TypeId)
    (ho : o.op = .call { callee := .builtin .append, args := #[s, x], argTypes := #[t, t] })
    (base : Nat) (e : TypeId) (i : TypeInfo) (z : Value) (size bytes : Nat) (ht : P.underlying t = some (.slice e)) (hi : P.info? e = some i) (hz : i.zero = some z)
    (hsize : i.size = size) (hby : i.bytes = bytes) (hzs : z.cells.size = size) (hsz : 0 < size) (he : ∀ y, (enc y).length = size) (hone : ∀ y, ∀ u ∈ enc y, u.oneCell' = true)
    (v : Value) (l l2 : List α) (hs : a.eval s = v) (hown : Own w base e size enc v l) (A : Option Addr) (m c : Nat) (hx : a.eval x = .slice A m c) (hsl : Sl w size enc A m l2) (hA : A = none → c = 0)
    (h63 : l.length + m ≤ maxLen) (hbytes : (l.length + m) * bytes ≤ 140737488355328) (hbase : base ≤ w.heap.size)
    (h : ∀ v' w', Own w' base e size enc v' (l ++ l2) → w.grownBy w' v.ownBlock → (v'.ownBlock = v.ownBlock ∨ v'.ownBlock = some w.heap.size) → K (a.put o.dst v') w') : o.wp P a w K Q := by
  obtain ⟨v', w', hrun, h2, h3, h4⟩ := run_appL (P := P) t o.type base e i z size bytes ht hi hz hsize hby hzs hsz he hone v l l2 hown A m c hsl h63 hbytes hbase
  have := hA
  unfold Oper.wp execOp
  simp only [ho, resolve, invoke, builtin, Sem.run_bind, Sem.run_pure, Result.andThen_ok, List.map_toArray, List.map_cons, List.map_nil, hs, hx, hrun]
  exact h v' w' h2 h3 h4
theorem wp_appL {ops : Array Oper} {rest : List Oper} {o : Oper} {a : Act} {Q : Exit → Act → World → Prop} (hgd : o.guard = none) (s x : Operand) (t : TypeId)
    (ho : o.op = .call { callee := .builtin .append, args := #[s, x], argTypes := #[t, t] })
    (base : Nat) (e : TypeId) (i : TypeInfo) (z : Value) (size bytes : Nat) (ht : P.underlying t = some (.slice e)) (hi : P.info? e = some i) (hz : i.zero = some z)
    (hsize : i.size = size) (hby : i.bytes = bytes) (hzs : z.cells.size = size) (hsz : 0 < size) (he : ∀ y, (enc y).length = size) (hone : ∀ y, ∀ u ∈ enc y, u.oneCell' = true)
    (v : Value) (l l2 : List α) (hs : a.eval s = v) (hown : Own w base e size enc v l) (A : Option Addr) (m c : Nat) (hx : a.eval x = .slice A m c) (hsl : Sl w size enc A m l2) (hA : A = none → c = 0)
    (h63 : l.length + m ≤ maxLen) (hbytes : (l.length + m) * bytes ≤ 140737488355328) (hbase : base ≤ w.heap.size)
    (h : ∀ v' w', Own w' base e size enc v' (l ++ l2) → w.grownBy w' v.ownBlock → (v'.ownBlock = v.ownBlock ∨ v'.ownBlock = some w.heap.size) → wpList P ops Q rest (a.put o.dst v') w') : wpList P ops Q (o :: rest) a w :=
  wpList_plain hgd fun _ hK => wp_append_L s x t ho base e i z size bytes ht hi hz hsize hby hzs hsz he hone v l l2 hs hown A m c hx hsl hA h63 hbytes hbase fun v' w' h2 h3 h4 => hK _ _ (h v' w' h2 h3 h4)
theorem step_appL {ops : Array Oper} {o : Oper} {a : Act} {K : Act → World → Prop} {Q : Exit → Act → World → Prop} {E : Prop} (hgd : o.guard = none) (s x : Operand) (t : TypeId)
    (ho : o.op = .call { callee := .builtin .append, args := #[s, x], argTypes := #[t, t] })
    (base : Nat) (e : TypeId) (i : TypeInfo) (z : Value) (size bytes : Nat) (ht : P.underlying t = some (.slice e)) (hi : P.info? e = some i) (hz : i.zero = some z)
    (hsize : i.size = size) (hby : i.bytes = bytes) (hzs : z.cells.size = size) (hsz : 0 < size) (he : ∀ y, (enc y).length = size) (hone : ∀ y, ∀ u ∈ enc y, u.oneCell' = true)
    (v : Value) (l l2 : List α) (hs : a.eval s = v) (hown : Own w base e size enc v l) (A : Option Addr) (m c : Nat) (hx : a.eval x = .slice A m c) (hsl : Sl w size enc A m l2) (hA : A = none → c = 0)
    (h63 : l.length + m ≤ maxLen) (hbytes : (l.length + m) * bytes ≤ 140737488355328) (hbase : base ≤ w.heap.size)
    (h : ∀ v' w', Own w' base e size enc v' (l ++ l2) → w.grownBy w' v.ownBlock → (v'.ownBlock = v.ownBlock ∨ v'.ownBlock = some w.heap.size) → K (a.put o.dst v') w') :
    if Region.wanted o (yielded ops a.tmps) = true then Oper.wp P o a w K Q else E := by
  have hw : Region.wanted o (yielded ops a.tmps) = true := by simp [Region.wanted, hgd]
  rw [if_pos hw]
  exact wp_append_L s x t ho base e i z size bytes ht hi hz hsize hby hzs hsz he hone v l l2 hs hown A m c hx hsl hA h63 hbytes hbase h
end
end Go.Proofs.YtdpoicfciogfnaaDoor

/- Words for walks: a block known whole; a world put under one name; quiet calls. No program is named here. -/
namespace Go.Proofs.YtdpoicfciogfnaaDoor
open Go.ChangeShapes Go.WideShapes Go.ChangeAt Go.RowKit
/-- Block g is just these cells, none of them frozen. -/
def Bk (w : World) (g : Nat) (t : TypeId) (cs : Array Value) : Prop := w.heap[g]? = some (.cells cs t (0, 0))
section
variable {w w' : World} {g : Nat} {t : TypeId} {cs : Array Value}
theorem Bk.lt (h : Bk w g t cs) : g < w.heap.size := by
  rcases Nat.lt_or_ge g w.heap.size with hlt | hge
  · exact hlt
  · unfold Bk at h; rw [Array.getElem?_eq_none hge] at h; cases h
theorem Bk.cell (h : Bk w g t cs) (i : Nat) : w.cell? ⟨g, i, none⟩ = cs[i]? := cell_of_row w g i cs t (0, 0) h
theorem Bk.fr (h : Bk w g t cs) (i : Nat) : w.frozen? ⟨g, i, none⟩ = false := by
  unfold Bk at h
  simp [World.frozen?, h]
theorem Bk.new (w : World) (t : TypeId) (cs : Array Value) {g : Nat} (hg : w.heap.size = g) : Bk (w.alloc (.cells cs t)) g t cs := by
  subst hg; exact heap_alloc_new w _
theorem Bk.alloc (h : Bk w g t cs) (o : Obj) : Bk (w.alloc o) g t cs := (Below.heap_alloc w o g h.lt).trans h
theorem Bk.drew (h : Bk w g t cs) : Bk w.drew g t cs := h
theorem Bk.drewN (h : Bk w g t cs) (n : Nat) : Bk (w.drewN n) g t cs := h
theorem Bk.later (h : Bk w g t cs) (hb : Below w.heap.size w w') : Bk w' g t cs := (hb.block g h.lt).trans h
theorem Bk.below {B : Nat} (h : Bk w g t cs) (hb : Below B w w') (hg : g < B) : Bk w' g t cs := (hb.block g hg).trans h
theorem Bk.grown {row : Option Nat} (h : Bk w g t cs) (hb : w.grownBy w' row) (hg : some g ≠ row) : Bk w' g t cs := (hb.block g h.lt hg).trans h
theorem Bk.set_ (h : Bk w g t cs) (i : Nat) (u : Value) : Bk (w.setCell ⟨g, i, none⟩ u) g t (cs.setIfInBounds i u) := by
  unfold Bk at h ⊢
  simp [World.setCell, Array.getElem?_modify, h]
structure SetTo (cs : Array Value) (i : Nat) (u : Value) (cs' : Array Value) : Prop where
  e : cs.setIfInBounds i u = cs'
theorem Bk.set' {cs' : Array Value} {i : Nat} {u : Value} (h : Bk w g t cs) (e : SetTo cs i u cs') : Bk (w.setCell ⟨g, i, none⟩ u) g t cs' := e.e ▸ h.set_ i u
theorem Bk.far (h : Bk w g t cs) {p : Addr} (hp : g ≠ p.block) (u : Value) : Bk (w.setCell p u) g t cs := (Below.heap_setCell w p u g hp).trans h
theorem kN (w : World) (t : TypeId) (cs : Array Value) {g : Nat} (hg : w.heap.size = g) : Bk (w.alloc (.cells cs t)) g t cs := Bk.new w t cs hg
theorem kA (h : Bk w g t cs) (o : Obj) : Bk (w.alloc o) g t cs := h.alloc o
theorem kD (h : Bk w g t cs) : Bk w.drew g t cs := h
theorem kW (h : Bk w g t cs) (n : Nat) : Bk (w.drewN n) g t cs := h
theorem kF (h : Bk w g t cs) {p : Addr} (hp : g ≠ p.block) (u : Value) : Bk (w.setCell p u) g t cs := h.far hp u
theorem kL (h : Bk w g t cs) (hb : Below w.heap.size w w') : Bk w' g t cs := h.later hb
theorem kG {row : Option Nat} (h : Bk w g t cs) (hb : w.grownBy w' row) (hg : some g ≠ row) : Bk w' g t cs := h.grown hb hg
theorem Bk.blk (h : Bk w g t cs) : Blk w g cs.toList := ⟨h.lt, fun j v hv => by rw [h.cell]; simpa using hv⟩
end
theorem good_succ {p : Nat → Bool} {k : Nat} (h : ∀ j, j < k → p j = false) (hk : p k = false) : ∀ j, j < k + 1 → p j = false := fun j hj => by
  rcases Nat.lt_or_ge j k with h1 | h1
  · exact h j h1
  · rw [show j = k by omega]; exact hk
theorem wp_world {P : Program} {c : Code} {Q : Exit → Act → World → Prop} {a : Act} {w0 : World} (F : World → Prop) (h0 : F w0) (h : ∀ w1, F w1 → Code.wp P c Q a w1) : Code.wp P c Q a w0 := h w0 h0
theorem wpl_world {P : Program} {ops : Array Oper} {l : List Oper} {Q : Exit → Act → World → Prop} {a : Act} {w0 : World} (F : World → Prop) (h0 : F w0) (h : ∀ w1, F w1 → wpList P ops Q l a w1) : wpList P ops Q l a w0 := h w0 h0
theorem stl {P : Program} {f : FuncId} {args : Array Value} {w : World} {v : Value} (h : Calls P f args w fun e w' => e = .returned v ∧ w = w') : Calls P f args w fun e w' => e = .returned v ∧ w' = w := h.mono fun _ _ h => ⟨h.1, h.2.symm⟩
theorem Bk.c1 {w : World} {g : Nat} {t : TypeId} {v0 : Value} (h : Bk w g t #[v0]) : (w.cell? ⟨g, 0, none⟩ = some v0) ∧ ∀ i, w.frozen? ⟨g, i, none⟩ = false := ⟨h.cell 0, h.fr⟩
theorem Bk.c2 {w : World} {g : Nat} {t : TypeId} {v0 v1 : Value} (h : Bk w g t #[v0, v1]) : (w.cell? ⟨g, 0, none⟩ = some v0 ∧ w.cell? ⟨g, 1, none⟩ = some v1) ∧ ∀ i, w.frozen? ⟨g, i, none⟩ = false := ⟨⟨h.cell 0, h.cell 1⟩, h.fr⟩
theorem Bk.c3 {w : World} {g : Nat} {t : TypeId} {v0 v1 v2 : Value} (h : Bk w g t #[v0, v1, v2]) : (w.cell? ⟨g, 0, none⟩ = some v0 ∧ w.cell? ⟨g, 1, none⟩ = some v1 ∧ w.cell? ⟨g, 2, none⟩ = some v2) ∧ ∀ i, w.frozen? ⟨g, i, none⟩ = false := ⟨⟨h.cell 0, h.cell 1, h.cell 2⟩, h.fr⟩
theorem Bk.c4 {w : World} {g : Nat} {t : TypeId} {v0 v1 v2 v3 : Value} (h : Bk w g t #[v0, v1, v2, v3]) : (w.cell? ⟨g, 0, none⟩ = some v0 ∧ w.cell? ⟨g, 1, none⟩ = some v1 ∧ w.cell? ⟨g, 2, none⟩ = some v2 ∧ w.cell? ⟨g, 3, none⟩ = some v3) ∧ ∀ i, w.frozen? ⟨g, i, none⟩ = false := ⟨⟨h.cell 0, h.cell 1, h.cell 2, h.cell 3⟩, h.fr⟩
theorem Bk.c6 {w : World} {g : Nat} {t : TypeId} {v0 v1 v2 v3 v4 v5 : Value} (h : Bk w g t #[v0, v1, v2, v3, v4, v5]) : (w.cell? ⟨g, 0, none⟩ = some v0 ∧ w.cell? ⟨g, 1, none⟩ = some v1 ∧ w.cell? ⟨g, 2, none⟩ = some v2 ∧ w.cell? ⟨g, 3, none⟩ = some v3 ∧ w.cell? ⟨g, 4, none⟩ = some v4 ∧ w.cell? ⟨g, 5, none⟩ = some v5) ∧ ∀ i, w.frozen? ⟨g, i, none⟩ = false := ⟨⟨h.cell 0, h.cell 1, h.cell 2, h.cell 3, h.cell 4, h.cell 5⟩, h.fr⟩
theorem Bk.c9 {w : World} {g : Nat} {t : TypeId} {v0 v1 v2 v3 v4 v5 v6 v7 v8 : Value} (h : Bk w g t #[v0, v1, v2, v3, v4, v5, v6, v7, v8]) : (w.cell? ⟨g, 0, none⟩ = some v0 ∧ w.cell? ⟨g, 1, none⟩ = some v1 ∧ w.cell? ⟨g, 2, none⟩ = some v2 ∧ w.cell? ⟨g, 3, none⟩ = some v3 ∧ w.cell? ⟨g, 4, none⟩ = some v4 ∧ w.cell? ⟨g, 5, none⟩ = some v5 ∧ w.cell? ⟨g, 6, none⟩ = some v6 ∧ w.cell? ⟨g, 7, none⟩ = some v7 ∧ w.cell? ⟨g, 8, none⟩ = some v8) ∧ ∀ i, w.frozen? ⟨g, i, none⟩ = false := ⟨⟨h.cell 0, h.cell 1, h.cell 2, h.cell 3, h.cell 4, h.cell 5, h.cell 6, h.cell 7, h.cell 8⟩, h.fr⟩
theorem Bk.c11 {w : World} {g : Nat} {t : TypeId} {v0 v1 v2 v3 v4 v5 v6 v7 v8 v9 v10 : Value} (h : Bk w g t #[v0, v1, v2, v3, v4, v5, v6, v7, v8, v9, v10]) : (w.cell? ⟨g, 0, none⟩ = some v0 ∧ w.cell? ⟨g, 1, none⟩ = some v1 ∧ w.cell? ⟨g, 2, none⟩ = some v2 ∧ w.cell? ⟨g, 3, none⟩ = some v3 ∧ w.cell? ⟨g, 4, none⟩ = some v4 ∧ w.cell? ⟨g, 5, none⟩ = some v5 ∧ w.cell? ⟨g, 6, none⟩ = some v6 ∧ w.cell? ⟨g, 7, none⟩ = some v7 ∧ w.cell? ⟨g, 8, none⟩ = some v8 ∧ w.cell? ⟨g, 9, none⟩ = some v9 ∧ w.cell? ⟨g, 10, none⟩ = some v10) ∧ ∀ i, w.frozen? ⟨g, i, none⟩ = false := ⟨⟨h.cell 0, h.cell 1, h.cell 2, h.cell 3, h.cell 4, h.cell 5, h.cell 6, h.cell 7, h.cell 8, h.cell 9, h.cell 10⟩, h.fr⟩
end Go.Proofs.YtdpoicfciogfnaaDoor
