/- Lemmas: DrD DrL DrM EqS. -/
import Derived.Test.YtlegilbiapbfkaaZDraw
import Derived.Test.YtlegilbiapbfkaaZPart
import Derived.Deep.RegionHeld3
import Derived.Deep.Cut
import Derived.Test.YtlegilbiapbfkaaZImpC
/- Draws of inputs: l92Any; DrawReplayParts. -/
namespace Go.Proofs.Ytlegilbiapbfkaa
open Go.ChangeShapes Go.WideShapes Go.ChangeAt Go.RowKit
theorem inpOk_sm {x : Inp} (h : inpOk x = true) : smI x := by
  have := inpOk_bd h
  unfold smI
  omega
theorem Sl.lits {α : Type} {enc : α → List Value} {sz : Nat} (w : World) (T : TypeId) (cs : Array Value) (l : List α) (g n : Nat) (he : ∀ x, (enc x).length = sz) (hg : w.heap.size = g) (hn : l.length = n) (h : cs.toList = l.flatMap enc) : Sl (w.alloc (.cells cs T)) sz enc (some ⟨g, 0, none⟩) n l := by
  subst hg hn
  refine ⟨rfl, fun _ => ⟨w.heap.size, 0, rfl, by simp, fun k x hk j v hv => ?_⟩⟩
  have h1 := flatMap_at he l k x j v hk hv
  have h2 := (Blk.new w cs T).2 (k * sz + j) v (by rw [h]; exact h1)
  rw [Nat.zero_add]
  exact h2
def AnyP (ins : List Inp) : Prop := (∀ x ∈ ins, smI x) ∧ ins.length ≤ 63
end Go.Proofs.Ytlegilbiapbfkaa

/- The reference's draws: vectors, boxes, changed levels. Printed by gen/drl.py. (Round B) -/
namespace Go.Proofs.Ytlegilbiapbfkaa
open Go.ChangeShapes Go.WideShapes Go.ChangeAt Go.RowKit
def smV (v : V2) : Prop := (-1000001 ≤ v.x ∧ v.x ≤ 1000001) ∧ (-1000001 ≤ v.y ∧ v.y ≤ 1000001)
def RetVec (R n : Nat) (w : World) (e : Ending) (w' : World) : Prop := ∃ v : V2, e = .returned (.agg #[.int .i64 v.x, .int .i64 v.y]) ∧ smV v ∧ RdL w' R n ∧ w.grownBy w' (some R)
def smB (b : Bx) : Prop := (-1010000 ≤ b.lo.x ∧ b.lo.x ≤ 1010000) ∧ (-1010000 ≤ b.lo.y ∧ b.lo.y ≤ 1010000) ∧ (-1010000 ≤ b.hi.x ∧ b.hi.x ≤ 1010000) ∧ (-1010000 ≤ b.hi.y ∧ b.hi.y ≤ 1010000)
def RetBx (R n : Nat) (w : World) (e : Ending) (w' : World) : Prop := ∃ b : Bx, e = .returned (.agg #[.int .i64 b.lo.x, .int .i64 b.lo.y, .int .i64 b.hi.x, .int .i64 b.hi.y]) ∧ smB b ∧ RdL w' R n ∧ w.grownBy w' (some R)
theorem keep0s {w : World} {g : Nat} {t : TypeId} {a b c d u v : Value} (h : Bk w g t #[a, b, c, d]) (hv : some a = some v) : (w.setCell ⟨g, 2, none⟩ u).cell? ⟨g, 0, none⟩ = some v := by rw [(h.set_ 2 u).cell]; exact hv
theorem keep1 {w : World} {g i : Nat} {t : TypeId} {cs : Array Value} {v : Value} (h : Bk w g t cs) (hv : cs[i]? = some v) : w.cell? ⟨g, i, none⟩ = some v := by rw [h.cell]; exact hv
/-- A level of the reference's draws: its walls and gates may lie where they lay. -/
def RetBent (R n : Nat) (w : World) (e : Ending) (w' : World) : Prop :=
  ∃ (l : Lev) (A A' : Option Addr) (c c' : Nat), e = .returned (.agg #[.int .i64 l.id, .int .i64 l.ticks, .int .i64 l.start.x, .int .i64 l.start.y, .slice A l.walls.length c, .slice A' l.gates.length c', .int .i64 l.fin.lo.x, .int .i64 l.fin.lo.y, .int .i64 l.fin.hi.x, .int .i64 l.fin.hi.y, .int .i64 l.bans]) ∧ (l.walls.length ≤ 10 ∧ l.gates.length ≤ 10) ∧ Sl w' 4 encBx A l.walls.length l.walls ∧ Sl w' 4 encBx A' l.gates.length l.gates ∧ (A = none → c = 0) ∧ (A' = none → c' = 0) ∧ (∀ a, A = some a → R < a.block) ∧ (∀ a, A' = some a → R < a.block) ∧ RdL w' R n ∧ w.grownBy w' (some R)
theorem Sl.far' {α : Type} {w : World} {sz : Nat} {enc : α → List Value} {A : Option Addr} {n : Nat} {l : List α} {p : Addr} (h : Sl w sz enc A n l) (hA : ∀ a, A = some a → a.block ≠ p.block) (v : Value) : Sl (w.setCell p v) sz enc A n l := h.grown (gr_set1 w p v) (fun a e e2 => by injection e2 with e2; exact hA a e e2.symm)
theorem Sl.setsB {B : Nat} {w u : World} {A : Option Addr} {m : Nat} {l : List Bx} (h : Sl w 4 encBx A m l) (hb : Below B w u) (hA : ∀ a, A = some a → a.block < B) : Sl u 4 encBx A m l := ⟨h.1, fun hn => by
    obtain ⟨b, off, e, hlt, hc⟩ := h.2 hn
    exact ⟨b, off, e, Nat.lt_of_lt_of_le hlt hb.size, fun k x hk j v hv => (hb.cell (show b < B from hA _ e)).trans (hc k x hk j v hv)⟩⟩
end Go.Proofs.Ytlegilbiapbfkaa

/- The reference's draws of runs: DrawInputsLegal, DrawRunScore, DrawRunHashes, DrawRunTo. (Round B) -/
namespace Go.Proofs.Ytlegilbiapbfkaa
open Go.ChangeShapes Go.WideShapes Go.ChangeAt Go.RowKit
/-- What is drawn for the laws of runs: a level, inputs; all of it lies in memory of the call's own. -/
structure Drawn (l : Lev) (A A' : Option Addr) (c c' : Nat) (ins : List Inp) (A2 : Option Addr) (c2 : Nat) (w : World) : Prop where
  nw : l.walls.length ≤ 10
  ng : l.gates.length ≤ 10
  W : Sl w 4 encBx A l.walls.length l.walls
  G : Sl w 4 encBx A' l.gates.length l.gates
  e : A = none → c = 0
  e' : A' = none → c' = 0
  ni : ins.length ≤ 63
  I : Sl w 3 encInp A2 ins.length ins
  ci : ins.length ≤ c2
  e2 : A2 = none → c2 = 0
theorem Drawn.below {l : Lev} {A A' : Option Addr} {c c' : Nat} {ins : List Inp} {A2 : Option Addr} {c2 : Nat} {w w' : World} (h : Drawn l A A' c c' ins A2 c2 w) (hb : Below w.heap.size w w') : Drawn l A A' c c' ins A2 c2 w' :=
  ⟨h.nw, h.ng, h.W.below hb, h.G.below hb, h.e, h.e', h.ni, h.I.below hb, h.ci, h.e2⟩
def RetRun (w : World) (e : Ending) (w' : World) : Prop := ∃ l A A' c c' ins A2 c2, e = .returned (.tuple #[.agg #[.int .i64 l.id, .int .i64 l.ticks, .int .i64 l.start.x, .int .i64 l.start.y, .slice A l.walls.length c, .slice A' l.gates.length c', .int .i64 l.fin.lo.x, .int .i64 l.fin.lo.y, .int .i64 l.fin.hi.x, .int .i64 l.fin.hi.y, .int .i64 l.bans], .slice A2 ins.length c2]) ∧ Drawn l A A' c c' ins A2 c2 w' ∧ ((∀ a, A = some a → w.heap.size ≤ a.block) ∧ (∀ a, A' = some a → w.heap.size ≤ a.block) ∧ (∀ a, A2 = some a → w.heap.size ≤ a.block)) ∧ Below w.heap.size w w'
def RetRunN (w : World) (e : Ending) (w' : World) : Prop := ∃ l A A' c c' ins A2 c2 n, e = .returned (.tuple #[.agg #[.int .i64 l.id, .int .i64 l.ticks, .int .i64 l.start.x, .int .i64 l.start.y, .slice A l.walls.length c, .slice A' l.gates.length c', .int .i64 l.fin.lo.x, .int .i64 l.fin.lo.y, .int .i64 l.fin.hi.x, .int .i64 l.fin.hi.y, .int .i64 l.bans], .slice A2 ins.length c2, .int .i64 n]) ∧ Drawn l A A' c c' ins A2 c2 w' ∧ (-2 ≤ n ∧ n ≤ (ins.length : Int) + 1) ∧ ((∀ a, A = some a → w.heap.size ≤ a.block) ∧ (∀ a, A' = some a → w.heap.size ≤ a.block) ∧ (∀ a, A2 = some a → w.heap.size ≤ a.block)) ∧ Below w.heap.size w w'
theorem own_above {w : World} {B R n c : Nat} {A : Option Addr} {T : TypeId} {l : List Bx} (h : Own w B T 4 encBx (.slice A n c) l) (hR : R < B) : ∀ a, A = some a → R < a.block ∧ a.block < w.heap.size := by
  intro a e
  subst e
  have := h.lt a.block rfl
  omega
end Go.Proofs.Ytlegilbiapbfkaa

/- Two equal states, two equal inputs are told equal. (Round B) -/
namespace Go.Proofs.Ytlegilbiapbfkaa
open Go.ChangeShapes Go.WideShapes Go.ChangeAt Go.RowKit
end Go.Proofs.Ytlegilbiapbfkaa
