/- Plain words for memory: a slice of structs that reads as a list; a slice of the call's own; small lemmas on worlds. No program is named here. -/
import Derived.Test.YtmfhfebakdkkdaaRows
import Derived.WalkKit
import Derived.ProofKit
import Derived.OpenShut
import Derived.Lib.Hide
import Derived.Laws.OwnMore
import Derived.Deep.QuietTactic
import Derived.BigQuiet
namespace Go.Proofs.Ytmfhfebakdkkdaa
open Go.ChangeShapes Go.WideShapes Go.ChangeAt Go.RowKit

/-- The slice value '.slice A n c' holds the elements l, each of sz cells laid by enc. -/
def Sl {α : Type} (w : World) (sz : Nat) (enc : α → List Value) (A : Option Addr) (n : Nat) (l : List α) : Prop :=
  l.length = n ∧ (0 < n → ∃ b off, A = some ⟨b, off, none⟩ ∧ b < w.heap.size ∧ ∀ k x, l[k]? = some x → ∀ j v, (enc x)[j]? = some v → w.cell? ⟨b, off + k * sz + j, none⟩ = some v)

section
variable {α : Type} {w w' : World} {sz : Nat} {enc : α → List Value} {A : Option Addr} {n : Nat} {l : List α}

theorem Sl.len (h : Sl w sz enc A n l) : l.length = n := h.1

theorem Sl.below (h : Sl w sz enc A n l) (hb : Below w.heap.size w w') : Sl w' sz enc A n l :=
  ⟨h.1, fun hn => by
    obtain ⟨b, off, e, hlt, hc⟩ := h.2 hn
    exact ⟨b, off, e, Nat.lt_of_lt_of_le hlt hb.size, fun k x hk j v hv => (hb.cell hlt).trans (hc k x hk j v hv)⟩⟩

/-- It stays where block number C alone has been written and the slice lies in another block. -/
theorem Sl.grown (h : Sl w sz enc A n l) {row : Option Nat} (hg : w.grownBy w' row) (hne : ∀ a, A = some a → row ≠ some a.block) : Sl w' sz enc A n l :=
  ⟨h.1, fun hn => by
    obtain ⟨b, off, e, hlt, hc⟩ := h.2 hn
    exact ⟨b, off, e, Nat.lt_of_lt_of_le hlt hg.size, fun k x hk j v hv => hg.cell (hc k x hk j v hv) (fun e2 => hne _ e e2.symm)⟩⟩

theorem Sl.at_ {k : Nat} (h : Sl w sz enc A n l) (hk : k < n) : ∃ b off x, A = some ⟨b, off, none⟩ ∧ b < w.heap.size ∧ l[k]? = some x ∧ ∀ j v, (enc x)[j]? = some v → w.cell? ⟨b, off + k * sz + j, none⟩ = some v := by
  obtain ⟨b, off, e, hlt, hc⟩ := h.2 (by omega)
  have hx : l[k]? = some (l[k]'(by have := h.1; omega)) := List.getElem?_eq_getElem _
  exact ⟨b, off, _, e, hlt, hx, hc k _ hx⟩

theorem Sl.nil : Sl w sz enc A 0 [] := ⟨rfl, fun h => absurd h (by omega)⟩
end

theorem flatMap_at {α : Type} {enc : α → List Value} {sz : Nat} (he : ∀ x, (enc x).length = sz) : ∀ (l : List α) (k : Nat) (x : α) (j : Nat) (v : Value), l[k]? = some x → (enc x)[j]? = some v → (l.flatMap enc)[k * sz + j]? = some v
  | [], k, x, j, v, hk, _ => by simp at hk
  | a :: l, 0, x, j, v, hk, hj => by
    simp only [List.getElem?_cons_zero, Option.some.injEq] at hk
    subst hk
    rw [List.flatMap_cons, Nat.zero_mul, Nat.zero_add, List.getElem?_append_left (by exact (List.getElem?_eq_some_iff.1 hj).1)]
    exact hj
  | a :: l, k + 1, x, j, v, hk, hj => by
    simp only [List.getElem?_cons_succ] at hk
    have h1 : (enc a).length ≤ (k + 1) * sz + j := by rw [he, Nat.add_mul]; omega
    have h2 : (k + 1) * sz + j - (enc a).length = k * sz + j := by rw [he, Nat.add_mul]; omega
    rw [List.flatMap_cons, List.getElem?_append_right h1, h2]
    exact flatMap_at he l k x j v hk hj

theorem flatMap_len {α : Type} {enc : α → List Value} {sz : Nat} (he : ∀ x, (enc x).length = sz) : ∀ l : List α, (l.flatMap enc).length = l.length * sz
  | [] => by simp
  | a :: l => by rw [List.flatMap_cons, List.length_append, he, flatMap_len he l, List.length_cons, Nat.add_mul]; omega

/-- A slice of the call's own (or nil): its cells are those of l. -/
def Own {α : Type} (w : World) (B : Nat) (T : TypeId) (sz : Nat) (enc : α → List Value) (v : Value) (l : List α) : Prop := w.ownsRow B T sz v l.length (l.flatMap enc)

section
variable {α : Type} {w w' : World} {B B' : Nat} {T : TypeId} {sz : Nat} {enc : α → List Value} {v : Value} {l : List α}

theorem Own.form (h : Own w B T sz enc v l) : ∃ A c, v = .slice A l.length c ∧ l.length ≤ c ∧ (∀ a, A = some a → B ≤ a.block ∧ a.block < w.heap.size ∧ a.off = 0 ∧ a.spot = none) := by
  obtain ⟨hl, h | ⟨g, cap, cur, rfl, hb, hg, hc, _⟩⟩ := h
  · obtain ⟨rfl, h0⟩ := h
    exact ⟨none, 0, by rw [h0], by omega, fun a e => by cases e⟩
  · exact ⟨_, cap, rfl, hc, fun a e => by cases e; exact ⟨hb, (Array.getElem?_eq_some_iff.1 hg).1, rfl, rfl⟩⟩

theorem Own.sl {A : Option Addr} {n c : Nat} (he : ∀ x, (enc x).length = sz) (h : Own w B T sz enc (.slice A n c) l) : Sl w sz enc A n l := by
  have hn : n = l.length := by
    obtain ⟨A', c', e, _⟩ := h.form
    injection e
  subst hn
  refine ⟨rfl, fun hpos => ?_⟩
  rcases h.2 with h' | ⟨g, cap, cur, e, hb, hg, _⟩
  · omega
  · have hA : A = some ⟨g, 0, none⟩ := by injection e
    subst hA
    refine ⟨g, 0, rfl, (Array.getElem?_eq_some_iff.1 hg).1, fun k x hk j u hu => ?_⟩
    have := World.ownsRow.cells h (g := g) rfl (k * sz + j) u (flatMap_at he l k x j u hk hu)
    rw [Nat.zero_add]
    unfold Addr.add at this
    split at this
    · rename_i h0
      rw [h0]; exact this
    · simpa using this

theorem Own.kept {row : Option Nat} (h : Own w B T sz enc v l) (hg : w.grownBy w' row) (hne : v.ownBlock = none ∨ v.ownBlock ≠ row) : Own w' B T sz enc v l := World.ownsRow.kept h hg hne

/-- Below a number that its block lies under, nothing of it has turned. -/
theorem Own.below {b : Nat} (h : Own w B T sz enc v l) (hb : Below b w w') (hv : ∀ g, v.ownBlock = some g → g < b) : Own w' B T sz enc v l := by
  refine ⟨h.1, ?_⟩
  rcases h.2 with hn | ⟨g, cap, cur, rfl, hB, hgg, rest⟩
  · exact .inl hn
  · exact .inr ⟨g, cap, cur, rfl, hB, (hb.block g (hv g rfl)).trans hgg, rest⟩
theorem Own.lt (h : Own w B T sz enc v l) : ∀ g, v.ownBlock = some g → B ≤ g ∧ g < w.heap.size := by
  intro g hg
  rcases h.2 with ⟨rfl, _⟩ | ⟨g', cap, cur, rfl, hB, hgg, rest⟩
  · simp [Value.ownBlock] at hg
  · simp only [Value.ownBlock, Option.some.injEq] at hg
    subst hg
    exact ⟨hB, (Array.getElem?_eq_some_iff.1 hgg).1⟩
theorem Own.later (h : Own w B T sz enc v l) (hb : Below w.heap.size w w') : Own w' B T sz enc v l := h.below hb fun g hg => (h.lt g hg).2
theorem Own.mono (h : Own w B T sz enc v l) (hB : B' ≤ B) : Own w B' T sz enc v l := by
  refine ⟨h.1, ?_⟩
  rcases h.2 with hn | ⟨g, cap, cur, rfl, hb, rest⟩
  · exact .inl hn
  · exact .inr ⟨g, cap, cur, rfl, by omega, rest⟩
theorem Own.set {p : Addr} (hp : p.block < B) (h : Own w B T sz enc v l) (u : Value) : Own (w.setCell p u) B T sz enc v l := ownsRow_setCell_below h hp u
theorem Own.alloc (h : Own w B T sz enc v l) (o : Obj) : Own (w.alloc o) B T sz enc v l := World.ownsRow.alloc h o
theorem Own.none_ : Own w B T sz enc (.slice none 0 0) [] := World.ownsRow_nil ..
end

theorem below_of_grown {B : Nat} {w w' : World} {row : Option Nat} (hg : w.grownBy w' row) (hB : B ≤ w.heap.size) (hr : ∀ k, row = some k → B ≤ k) : Below B w w' := (Below.refl B w).grown hg hB hr
theorem below_drewN {B : Nat} {a w : World} (h : Below B a w) (n : Nat) : Below B a (w.drewN n) := ⟨h.os, h.tape, h.output, h.size, h.block⟩
/-- Behind a contract that speaks of what was there: the two rules by which the walk reads on. -/
theorem bcell {W w1 : World} (hb : Below W.heap.size W w1) : (∀ b o, b < W.heap.size → w1.cell? ⟨b, o, none⟩ = W.cell? ⟨b, o, none⟩) ∧ (∀ b o, b < W.heap.size → w1.frozen? ⟨b, o, none⟩ = W.frozen? ⟨b, o, none⟩) :=
  ⟨fun b o h => hb.cell (p := ⟨b, o, none⟩) h, fun b o h => hb.frozen (p := ⟨b, o, none⟩) h⟩
theorem below_after {w w1 w2 : World} (h : Below w.heap.size w w1) (h2 : Below w1.heap.size w1 w2) : Below w.heap.size w w2 := h.trans (h2.mono h.size)
theorem below_alloc {w w1 : World} (h : Below w.heap.size w w1) (o : Obj) : Below w.heap.size w (w1.alloc o) := h.alloc h.size o
theorem below_setCell {B : Nat} {w w1 : World} {p : Addr} (hp : B ≤ p.block) (h : Below B w w1) (u : Value) : Below B w (w1.setCell p u) := h.setCell hp u
theorem below_drew {B : Nat} {w w1 : World} (h : Below B w w1) : Below B w w1.drew := h.drew
theorem grown_of_below {w w' : World} {row : Option Nat} (hb : Below w.heap.size w w') : w.grownBy w' row := ⟨hb.os, hb.tape, hb.output, hb.size, fun k hk _ => hb.block k hk⟩

/-! ### a row of cells written at once -/
def setAll : List Value → Nat → List Value → List Value
  | xs, _, [] => xs
  | xs, p, v :: vs => setAll (xs.set p v) (p + 1) vs
def putAll : World → Nat → Nat → List Value → World
  | w, _, _, [] => w
  | w, g, p, v :: vs => putAll (w.setCell ⟨g, p, none⟩ v) g (p + 1) vs

theorem setAll_length : ∀ (vs xs : List Value) (p : Nat), (setAll xs p vs).length = xs.length
  | [], xs, p => rfl
  | v :: vs, xs, p => by rw [setAll, setAll_length vs, List.length_set]
theorem setAll_get : ∀ (vs xs : List Value) (p i : Nat), p + vs.length ≤ xs.length → (setAll xs p vs)[i]? = if p ≤ i ∧ i < p + vs.length then vs[i - p]? else xs[i]?
  | [], xs, p, i, _ => by rw [setAll, if_neg (by simp)]
  | v :: vs, xs, p, i, h => by
    simp only [List.length_cons] at h
    rw [setAll, setAll_get vs _ _ _ (by rw [List.length_set]; omega), List.length_cons]
    by_cases h0 : i = p
    · subst h0
      rw [if_neg (by omega), if_pos (by omega), List.getElem?_set_self (by omega), Nat.sub_self]
      rfl
    · by_cases h1 : p + 1 ≤ i ∧ i < p + 1 + vs.length
      · rw [if_pos h1, if_pos (by omega), show i - p = (i - (p + 1)) + 1 from by omega, List.getElem?_cons_succ]
      · rw [if_neg h1, if_neg (by omega), List.getElem?_set_ne (fun e => h0 e.symm)]

theorem grownBy_trans {a b c : World} {row : Option Nat} (h : a.grownBy b row) (k : b.grownBy c row) : a.grownBy c row :=
  ⟨k.os.trans h.os, k.tape.trans h.tape, k.output.trans h.output, Nat.le_trans h.size k.size, fun i hi hn => (k.block i (Nat.lt_of_lt_of_le hi h.size) hn).trans (h.block i hi hn)⟩
theorem grownBy_refl (w : World) (row : Option Nat) : w.grownBy w row := ⟨rfl, rfl, rfl, Nat.le_refl _, fun _ _ _ => rfl⟩

theorem ownsRow_putAll {base : Nat} {e : TypeId} {size g n cap : Nat} : ∀ (vs xs : List Value) (p : Nat) (w : World), w.ownsRow base e size (.slice (some ⟨g, 0, none⟩) n cap) n xs →
    (putAll w g p vs).ownsRow base e size (.slice (some ⟨g, 0, none⟩) n cap) n (setAll xs p vs) ∧ w.grownBy (putAll w g p vs) (some g)
  | [], xs, p, w, h => ⟨h, grownBy_refl _ _⟩
  | v :: vs, xs, p, w, h => by
    obtain ⟨h1, h2⟩ := h.stored p v
    obtain ⟨h3, h4⟩ := ownsRow_putAll vs _ (p + 1) _ h1
    exact ⟨h3, grownBy_trans h2 h4⟩

theorem own_slot {base : Nat} {e : TypeId} {size g n cap : Nat} {xs : List Value} {w : World} (h : w.ownsRow base e size (.slice (some ⟨g, 0, none⟩) n cap) n xs) {k : Nat} (hk : k < n) (j : Nat) (hj : j < size) :
    (∃ v, w.cell? ⟨g, k * size + j, none⟩ = some v) ∧ w.frozen? ⟨g, k * size + j, none⟩ = false := by
  have hle := Nat.mul_le_mul_right size (show k + 1 ≤ n from hk)
  rw [Nat.add_mul, Nat.one_mul] at hle
  refine ⟨?_, h.frozenAt _⟩
  rw [h.cellAt _ (by omega)]
  exact ⟨_, List.getElem?_eq_getElem (by rw [h.1]; omega)⟩

/-- What a row holds when k elements have been laid into it: these, and behind them what 'make' laid. -/
def cellsTo {α : Type} (enc : α → List Value) (sz : Nat) (l : List α) (m : List Value) (k : Nat) : List Value := (l.take k).flatMap enc ++ m.drop (k * sz)

section
variable {α : Type} {enc : α → List Value} {sz : Nat} {l : List α} {m : List Value} {k : Nat}
theorem cellsTo_zero : cellsTo enc sz l m 0 = m := by simp [cellsTo]
theorem cellsTo_all (hm : m.length = l.length * sz) : cellsTo enc sz l m l.length = l.flatMap enc := by
  rw [cellsTo, List.take_length, List.drop_of_length_le (by omega), List.append_nil]
theorem cellsTo_length (he : ∀ x, (enc x).length = sz) (hm : m.length = l.length * sz) (hk : k ≤ l.length) : (cellsTo enc sz l m k).length = l.length * sz := by
  rw [cellsTo, List.length_append, flatMap_len he, List.length_take, List.length_drop, hm, Nat.min_eq_left hk]
  have := Nat.mul_le_mul_right sz hk
  omega
theorem cellsTo_succ (he : ∀ x, (enc x).length = sz) (hm : m.length = l.length * sz) {x : α} (hx : l[k]? = some x) : setAll (cellsTo enc sz l m k) (k * sz) (enc x) = cellsTo enc sz l m (k + 1) := by
  have hk : k < l.length := (List.getElem?_eq_some_iff.1 hx).1
  have hlt : (l.take k).length = k := by rw [List.length_take]; omega
  have hlt1 : (l.take (k + 1)).length = k + 1 := by rw [List.length_take]; omega
  have hle := Nat.mul_le_mul_right sz (show k + 1 ≤ l.length from hk)
  have e1 : (k + 1) * sz = k * sz + sz := by rw [Nat.add_mul, Nat.one_mul]
  have hta : l.take (k + 1) = l.take k ++ [x] := by rw [List.take_add_one, hx]; rfl
  apply List.ext_getElem?
  intro i
  rw [setAll_get _ _ _ _ (by rw [cellsTo_length he hm (by omega), he]; omega), he]
  unfold cellsTo
  have hl1 : ((l.take k).flatMap enc).length = k * sz := by rw [flatMap_len he, hlt]
  rw [hta, List.flatMap_append]
  have hlx : ([x].flatMap enc) = enc x := by simp
  rw [hlx]
  by_cases h1 : i < k * sz
  · rw [if_neg (by omega), List.getElem?_append_left (by omega), List.getElem?_append_left (by rw [List.length_append, hl1]; omega), List.getElem?_append_left (by omega)]
  · by_cases h2 : i < k * sz + sz
    · rw [if_pos (by omega), List.getElem?_append_left (by rw [List.length_append, hl1, he]; omega), List.getElem?_append_right (by omega), hl1]
    · rw [if_neg (by omega), List.getElem?_append_right (by omega), List.getElem?_append_right (by rw [List.length_append, hl1, he]; omega), List.length_append, hl1, he, List.getElem?_drop, List.getElem?_drop]
      congr 1
      omega
end


/-- Block b holds these cells from its head on. -/
def Blk (w : World) (b : Nat) (cs : List Value) : Prop := b < w.heap.size ∧ ∀ j v, cs[j]? = some v → w.cell? ⟨b, j, none⟩ = some v
theorem Blk.new (w : World) (cs : Array Value) (T : TypeId) : Blk (w.alloc (.cells cs T)) w.heap.size cs.toList := by
  refine ⟨by simp, fun j v h => ?_⟩
  rw [cell_of_row (w.alloc (.cells cs T)) w.heap.size j cs T (0, 0) (heap_alloc_new w _)]
  simpa using h
theorem Blk.below {w w' : World} {b B : Nat} {cs : List Value} (h : Blk w b cs) (hb : Below B w w') (hB : b < B) : Blk w' b cs :=
  ⟨Nat.lt_of_lt_of_le h.1 hb.size, fun j v hv => (hb.cell (p := ⟨b, j, none⟩) hB).trans (h.2 j v hv)⟩
theorem Blk.later {w w' : World} {b : Nat} {cs : List Value} (h : Blk w b cs) (hb : Below w.heap.size w w') : Blk w' b cs := h.below hb h.1
theorem Blk.alloc {w : World} {b : Nat} {cs : List Value} (h : Blk w b cs) (o : Obj) : Blk (w.alloc o) b cs := h.later (below_alloc (Below.refl _ _) o)
theorem Blk.drew {w : World} {b : Nat} {cs : List Value} (h : Blk w b cs) : Blk w.drew b cs := h
theorem Blk.grown {w w' : World} {b : Nat} {cs : List Value} {row : Option Nat} (h : Blk w b cs) (hg : w.grownBy w' row) (hne : row ≠ some b) : Blk w' b cs :=
  ⟨Nat.lt_of_lt_of_le h.1 hg.size, fun j v hv => hg.cell (h.2 j v hv) (fun e => hne e.symm)⟩
theorem Blk.c1 {w : World} {b : Nat} {v0 : Value} (h : Blk w b [v0]) : w.cell? ⟨b, 0, none⟩ = some v0 := h.2 0 _ rfl
theorem Blk.c2 {w : World} {b : Nat} {v0 v1 : Value} (h : Blk w b [v0, v1]) : w.cell? ⟨b, 0, none⟩ = some v0 ∧ w.cell? ⟨b, 1, none⟩ = some v1 := ⟨h.2 0 _ rfl, h.2 1 _ rfl⟩
theorem Blk.c3 {w : World} {b : Nat} {v0 v1 v2 : Value} (h : Blk w b [v0, v1, v2]) : w.cell? ⟨b, 0, none⟩ = some v0 ∧ w.cell? ⟨b, 1, none⟩ = some v1 ∧ w.cell? ⟨b, 2, none⟩ = some v2 := ⟨h.2 0 _ rfl, h.2 1 _ rfl, h.2 2 _ rfl⟩
theorem Blk.c4 {w : World} {b : Nat} {v0 v1 v2 v3 : Value} (h : Blk w b [v0, v1, v2, v3]) : w.cell? ⟨b, 0, none⟩ = some v0 ∧ w.cell? ⟨b, 1, none⟩ = some v1 ∧ w.cell? ⟨b, 2, none⟩ = some v2 ∧ w.cell? ⟨b, 3, none⟩ = some v3 := ⟨h.2 0 _ rfl, h.2 1 _ rfl, h.2 2 _ rfl, h.2 3 _ rfl⟩
theorem Blk.c5 {w : World} {b : Nat} {v0 v1 v2 v3 v4 : Value} (h : Blk w b [v0, v1, v2, v3, v4]) : w.cell? ⟨b, 0, none⟩ = some v0 ∧ w.cell? ⟨b, 1, none⟩ = some v1 ∧ w.cell? ⟨b, 2, none⟩ = some v2 ∧ w.cell? ⟨b, 3, none⟩ = some v3 ∧ w.cell? ⟨b, 4, none⟩ = some v4 := ⟨h.2 0 _ rfl, h.2 1 _ rfl, h.2 2 _ rfl, h.2 3 _ rfl, h.2 4 _ rfl⟩
theorem Blk.c6 {w : World} {b : Nat} {v0 v1 v2 v3 v4 v5 : Value} (h : Blk w b [v0, v1, v2, v3, v4, v5]) : w.cell? ⟨b, 0, none⟩ = some v0 ∧ w.cell? ⟨b, 1, none⟩ = some v1 ∧ w.cell? ⟨b, 2, none⟩ = some v2 ∧ w.cell? ⟨b, 3, none⟩ = some v3 ∧ w.cell? ⟨b, 4, none⟩ = some v4 ∧ w.cell? ⟨b, 5, none⟩ = some v5 := ⟨h.2 0 _ rfl, h.2 1 _ rfl, h.2 2 _ rfl, h.2 3 _ rfl, h.2 4 _ rfl, h.2 5 _ rfl⟩
theorem Blk.c9 {w : World} {b : Nat} {v0 v1 v2 v3 v4 v5 v6 v7 v8 : Value} (h : Blk w b [v0, v1, v2, v3, v4, v5, v6, v7, v8]) : w.cell? ⟨b, 0, none⟩ = some v0 ∧ w.cell? ⟨b, 1, none⟩ = some v1 ∧ w.cell? ⟨b, 2, none⟩ = some v2 ∧ w.cell? ⟨b, 3, none⟩ = some v3 ∧ w.cell? ⟨b, 4, none⟩ = some v4 ∧ w.cell? ⟨b, 5, none⟩ = some v5 ∧ w.cell? ⟨b, 6, none⟩ = some v6 ∧ w.cell? ⟨b, 7, none⟩ = some v7 ∧ w.cell? ⟨b, 8, none⟩ = some v8 := ⟨h.2 0 _ rfl, h.2 1 _ rfl, h.2 2 _ rfl, h.2 3 _ rfl, h.2 4 _ rfl, h.2 5 _ rfl, h.2 6 _ rfl, h.2 7 _ rfl, h.2 8 _ rfl⟩
theorem Blk.c11 {w : World} {b : Nat} {v0 v1 v2 v3 v4 v5 v6 v7 v8 v9 v10 : Value} (h : Blk w b [v0, v1, v2, v3, v4, v5, v6, v7, v8, v9, v10]) : w.cell? ⟨b, 0, none⟩ = some v0 ∧ w.cell? ⟨b, 1, none⟩ = some v1 ∧ w.cell? ⟨b, 2, none⟩ = some v2 ∧ w.cell? ⟨b, 3, none⟩ = some v3 ∧ w.cell? ⟨b, 4, none⟩ = some v4 ∧ w.cell? ⟨b, 5, none⟩ = some v5 ∧ w.cell? ⟨b, 6, none⟩ = some v6 ∧ w.cell? ⟨b, 7, none⟩ = some v7 ∧ w.cell? ⟨b, 8, none⟩ = some v8 ∧ w.cell? ⟨b, 9, none⟩ = some v9 ∧ w.cell? ⟨b, 10, none⟩ = some v10 := ⟨h.2 0 _ rfl, h.2 1 _ rfl, h.2 2 _ rfl, h.2 3 _ rfl, h.2 4 _ rfl, h.2 5 _ rfl, h.2 6 _ rfl, h.2 7 _ rfl, h.2 8 _ rfl, h.2 9 _ rfl, h.2 10 _ rfl⟩
/-- A call writes an own slice anew: its elements are l' now; nothing else that was there has turned. -/
def RetPut {α : Type} (B : Nat) (T : TypeId) (sz : Nat) (enc : α → List Value) (sl : Value) (l' : List α) (r : Int) (w : World) (e : Ending) (w' : World) : Prop :=
  e = .returned (.int .i64 r) ∧ Own w' B T sz enc sl l' ∧ w.grownBy w' sl.ownBlock
/-- A call hands back a slice of its own (or nil) that holds l; what was there stands. -/
def RetOwn {α : Type} (T : TypeId) (sz : Nat) (enc : α → List Value) (l : List α) (w : World) (e : Ending) (w' : World) : Prop :=
  ∃ A c, e = .returned (.slice A l.length c) ∧ l.length ≤ c ∧ Own w' w.heap.size T sz enc (.slice A l.length c) l ∧ Below w.heap.size w w'
theorem Own.sl' {α : Type} {w : World} {B : Nat} {T : TypeId} {sz : Nat} {enc : α → List Value} {A : Option Addr} {c : Nat} {l : List α} (he : ∀ x, (enc x).length = sz) (h : Own w B T sz enc (.slice A l.length c) l) : Sl w sz enc A l.length l := h.sl he
theorem Own.keptN {α : Type} {w w' : World} {B : Nat} {T : TypeId} {sz : Nat} {enc : α → List Value} {v : Value} {l : List α} {row : Option Nat} (h : Own w B T sz enc v l) (hg : w.grownBy w' row) (hne : ∀ g, v.ownBlock = some g → row ≠ some g) : Own w' B T sz enc v l :=
  h.kept hg (by
    cases e : v.ownBlock with
    | none => exact .inl rfl
    | some g => exact .inr (fun e2 => hne g e e2.symm))
end Go.Proofs.Ytmfhfebakdkkdaa
