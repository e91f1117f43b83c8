/- The draws' kit: a reader that lies above the code that it reads; what a draw leaves alone. -/
import Derived.Test.YtkendoffknjpiaaRdr
import Derived.Test.YtkendoffknjpiaaAppL
import Derived.Test.YtkendoffknjpiaaEngP
import Derived.Test.YtkendoffknjpiaaWk
import Derived.Deep.DeepMust
namespace Go.Proofs.Ytkendoffknjpiaa
open Go.ChangeShapes Go.WideShapes Go.ChangeAt Go.RowKit
section
variable {w w1 w2 : World} {row : Option Nat} {R n : Nat}
theorem gr_alloc (h : w.grownBy w1 row) (o : Obj) : w.grownBy (w1.alloc o) row := grownBy_trans h (grown_of_below (below_alloc (Below.refl _ _) o))
theorem gr_set {p : Addr} (hp : w.heap.size ≤ p.block) (h : w.grownBy w1 row) (u : Value) : w.grownBy (w1.setCell p u) row :=
  ⟨h.os, h.tape, h.output, by simpa using h.size, fun k hk hn => (heap_setCell_other w1 p k u (fun e => by omega)).trans (h.block k hk hn)⟩
theorem gr_drew (h : w.grownBy w1 row) : w.grownBy w1.drew row := ⟨h.os, h.tape, h.output, h.size, h.block⟩
theorem gr_drewN (h : w.grownBy w1 row) (n : Nat) : w.grownBy (w1.drewN n) row := ⟨h.os, h.tape, h.output, h.size, h.block⟩
theorem gr_after (h : w.grownBy w1 row) (h2 : w1.grownBy w2 row) : w.grownBy w2 row := grownBy_trans h h2
theorem gr_below (h : w.grownBy w1 row) (h2 : Below w1.heap.size w1 w2) : w.grownBy w2 row := grownBy_trans h (grown_of_below h2)
/-- A change of a row that the call itself has made. -/
theorem gr_own {row' : Option Nat} (h : w.grownBy w1 row) (h2 : w1.grownBy w2 row') (hn : ∀ g, row' = some g → w.heap.size ≤ g) : w.grownBy w2 row :=
  ⟨h2.os.trans h.os, h2.tape.trans h.tape, h2.output.trans h.output, Nat.le_trans h.size h2.size, fun k hk hne => (h2.block k (Nat.lt_of_lt_of_le hk h.size) (fun e => by have := hn k e.symm; omega)).trans (h.block k hk hne)⟩
/-- A reader at block R, of which at most n picks have been made; what it reads lies below it. -/
def RdL (w : World) (R n : Nat) : Prop := ∃ p, p ≤ n ∧ Rd w R p
theorem RdL.lt (h : RdL w R n) : R < w.heap.size := by
  obtain ⟨p, _, A, m, c, l, _, _, _, _, _, _, _, hR⟩ := h
  exact hR
theorem RdL.keep (h : RdL w R n) (hk : ∀ k, k ≤ R → w1.heap[k]? = w.heap[k]?) (hs : w.heap.size ≤ w1.heap.size) : RdL w1 R n := by
  obtain ⟨p, hp, A, m, c, l, hm, h0, h1, h2, hsl, hl, hne, hR⟩ := h
  have hc : ∀ k o, k ≤ R → w1.cell? ⟨k, o, none⟩ = w.cell? ⟨k, o, none⟩ := fun k o hkR => World.cell?_of_block (a := ⟨k, o, none⟩) (hk k hkR)
  have hf : ∀ k o, k ≤ R → w1.frozen? ⟨k, o, none⟩ = w.frozen? ⟨k, o, none⟩ := fun k o hkR => by
    unfold World.frozen?
    simp only [hk k hkR]
  refine ⟨p, hp, A, m, c, l, hm, (hc R 0 (Nat.le_refl _)).trans h0, (hc R 1 (Nat.le_refl _)).trans h1, (hf R 1 (Nat.le_refl _)).trans h2, ?_, hl, hne, by omega⟩
  refine ⟨hsl.1, fun hpos => ?_⟩
  obtain ⟨b, off, e, hlt, hx⟩ := hsl.2 hpos
  have hbR : b < R := hne hpos _ e
  exact ⟨b, off, e, by omega, fun k x hkx j v hv => (hc b _ (by omega)).trans (hx k x hkx j v hv)⟩
theorem RdL.alloc (h : RdL w R n) (o : Obj) : RdL (w.alloc o) R n := h.keep (fun k hk => Below.heap_alloc w o k (by have := h.lt; omega)) (by simp)
theorem RdL.far (h : RdL w R n) {p : Addr} (hp : R < p.block) (u : Value) : RdL (w.setCell p u) R n := h.keep (fun k hk => heap_setCell_other w p k u (by omega)) (by simp)
theorem RdL.drew (h : RdL w R n) : RdL w.drew R n := h
theorem RdL.drewN (h : RdL w R n) (k : Nat) : RdL (w.drewN k) R n := h
theorem RdL.later (h : RdL w R n) (hb : Below w.heap.size w w1) : RdL w1 R n := h.keep (fun k hk => hb.block k (by have := h.lt; omega)) hb.size
theorem RdL.own (h : RdL w R n) {row' : Option Nat} (hg : w.grownBy w1 row') (hn : ∀ g, row' = some g → R < g) : RdL w1 R n :=
  h.keep (fun k hk => hg.block k (by have := h.lt; omega) (fun e => by have := hn k e.symm; omega)) hg.size
theorem RdL.more (h : RdL w R n) {m : Nat} (hm : n ≤ m) : RdL w R m := by
  obtain ⟨p, hp, hr⟩ := h
  exact ⟨p, by omega, hr⟩
end
/-- What a pick hands back. -/
def RetPk (m : Int) (R n : Nat) (w : World) (e : Ending) (w' : World) : Prop :=
  ∃ x : Int, e = .returned (.int .i64 x) ∧ 0 ≤ x ∧ x < m ∧ RdL w' R (n + 1) ∧ w.grownBy w' (some R)
theorem pick_n (R n : Nat) (m : Int) (w : World) (h : RdL w R n) (hn : n ≤ 1000000) (hm0 : 1 ≤ m) (hm : m ≤ 1000000000) :
    Calls Try.prog 57 #[.pointer (some ⟨R, 0, none⟩), .int .i64 m] w (RetPk m R n w) := by
  obtain ⟨p, hp, hr⟩ := h
  refine (pick_any R p m w hr (by omega) (by omega) (by omega)).mono ?_
  rintro e w1 ⟨x, rfl, hx0, hx1, hr1, hg1⟩
  exact ⟨x, rfl, hx0, by omega, ⟨p + 1, by omega, hr1⟩, hg1⟩
/-- The head of a draw: the reader of its code. -/
def RetOpL (w : World) (e : Ending) (w' : World) : Prop := ∃ R, e = .returned (.pointer (some ⟨R, 0, none⟩)) ∧ w.heap.size ≤ R ∧ RdL w' R 0 ∧ Below w.heap.size w w'
theorem l6Open_n (A : Option Addr) (n c : Nat) (l : List Int) (w : World) (h : Sl w 1 encU8 A n l) (hl : ∀ x ∈ l, 0 ≤ x ∧ x < 256) (hn : n ≤ 9223372036854775807) (hnc : n ≤ c) (hc : c ≤ 9223372036854775807) :
    Calls Try.prog 56 #[.slice A n c] w (RetOpL w) := by
  refine (l6Open_any A n c l w h hl hn hnc hc).mono ?_
  rintro e w1 ⟨R, rfl, hR, hr, hb⟩
  exact ⟨R, rfl, hR, ⟨0, Nat.le_refl _, hr⟩, hb⟩
/-- A drawn input. -/
def smI (x : Inp) : Prop := -100 ≤ x.s ∧ x.s ≤ 100 ∧ -100 ≤ x.p ∧ x.p ≤ 100
def RetInp (P : Inp → Prop) (R n : Nat) (w : World) (e : Ending) (w' : World) : Prop :=
  ∃ x : Inp, e = .returned (.agg #[.int .i64 x.s, .int .i64 x.p, .bool x.z]) ∧ P x ∧ RdL w' R n ∧ w.grownBy w' (some R)
end Go.Proofs.Ytkendoffknjpiaa
