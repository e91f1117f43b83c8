/- Lemmas: DrD DrL DrM EqS. -/
import Derived.Test.YtdpoicfciogfnaaDoorZDraw
import Derived.Test.YtdpoicfciogfnaaDoorZPart
import Derived.Deep.RegionHeld3
import Derived.Deep.Cut
import Derived.Test.YtdpoicfciogfnaaDoorZImpC
/- Draws of inputs: l92Any; DrawReplayParts. -/
namespace Go.Proofs.YtdpoicfciogfnaaDoor
open Go.ChangeShapes Go.WideShapes Go.ChangeAt Go.RowKit
theorem inpOk_sm {x : Inp} (h : inpOk x = true) : smI x := by
  have := inpOk_bd h
  unfold smI
  omega
theorem Sl.lits {α : Type} {enc : α → List Value} {sz : Nat} (w : World) (T : TypeId) (cs : Array Value) (l : List α) (g n : Nat) (he : ∀ x, (enc x).length = sz) (hg : w.heap.size = g) (hn : l.length = n) (h : cs.toList = l.flatMap enc) : Sl (w.alloc (.cells cs T)) sz enc (some ⟨g, 0, none⟩) n l := by
  subst hg hn
  refine ⟨rfl, fun _ => ⟨w.heap.size, 0, rfl, by simp, fun k x hk j v hv => ?_⟩⟩
  have h1 := flatMap_at he l k x j v hk hv
  have h2 := (Blk.new w cs T).2 (k * sz + j) v (by rw [h]; exact h1)
  rw [Nat.zero_add]
  exact h2
def AnyP (ins : List Inp) : Prop := (∀ x ∈ ins, smI x) ∧ ins.length ≤ 63
/-- A call hands back drawn inputs, and turns nothing that was there. -/
def RetAny (P : List Inp → Prop) (w : World) (e : Ending) (w' : World) : Prop :=
  ∃ (ins : List Inp) (A : Option Addr) (c : Nat), e = .returned (.slice A ins.length c) ∧ P ins ∧ Own w' w.heap.size 68 3 encInp (.slice A ins.length c) ins ∧ Below w.heap.size w w'
end Go.Proofs.YtdpoicfciogfnaaDoor

/- The reference's draws: vectors, boxes, changed levels. Printed by gen/drl.py. (Round B) -/
namespace Go.Proofs.YtdpoicfciogfnaaDoor
open Go.ChangeShapes Go.WideShapes Go.ChangeAt Go.RowKit
def smV (v : V2) : Prop := (-1000001 ≤ v.x ∧ v.x ≤ 1000001) ∧ (-1000001 ≤ v.y ∧ v.y ≤ 1000001)
def RetVec (R n : Nat) (w : World) (e : Ending) (w' : World) : Prop := ∃ v : V2, e = .returned (.agg #[.int .i64 v.x, .int .i64 v.y]) ∧ smV v ∧ RdL w' R n ∧ w.grownBy w' (some R)
def smB (b : Bx) : Prop := (-1010000 ≤ b.lo.x ∧ b.lo.x ≤ 1010000) ∧ (-1010000 ≤ b.lo.y ∧ b.lo.y ≤ 1010000) ∧ (-1010000 ≤ b.hi.x ∧ b.hi.x ≤ 1010000) ∧ (-1010000 ≤ b.hi.y ∧ b.hi.y ≤ 1010000)
def RetBx (R n : Nat) (w : World) (e : Ending) (w' : World) : Prop := ∃ b : Bx, e = .returned (.agg #[.int .i64 b.lo.x, .int .i64 b.lo.y, .int .i64 b.hi.x, .int .i64 b.hi.y]) ∧ smB b ∧ RdL w' R n ∧ w.grownBy w' (some R)
theorem keep0s {w : World} {g : Nat} {t : TypeId} {a b c d u v : Value} (h : Bk w g t #[a, b, c, d]) (hv : some a = some v) : (w.setCell ⟨g, 2, none⟩ u).cell? ⟨g, 0, none⟩ = some v := by rw [(h.set_ 2 u).cell]; exact hv
theorem keep1 {w : World} {g i : Nat} {t : TypeId} {cs : Array Value} {v : Value} (h : Bk w g t cs) (hv : cs[i]? = some v) : w.cell? ⟨g, i, none⟩ = some v := by rw [h.cell]; exact hv
/-- A level of the reference's draws: its walls and gates may lie where they lay. -/
def RetBent (R n : Nat) (w : World) (e : Ending) (w' : World) : Prop :=
  ∃ (l : Lev) (A A' : Option Addr) (c c' : Nat), e = .returned (.agg #[.int .i64 l.id, .int .i64 l.ticks, .int .i64 l.start.x, .int .i64 l.start.y, .slice A l.walls.length c, .slice A' l.gates.length c', .int .i64 l.fin.lo.x, .int .i64 l.fin.lo.y, .int .i64 l.fin.hi.x, .int .i64 l.fin.hi.y, .int .i64 l.bans]) ∧ (l.walls.length ≤ 10 ∧ l.gates.length ≤ 10) ∧ Sl w' 4 encBx A l.walls.length l.walls ∧ Sl w' 4 encBx A' l.gates.length l.gates ∧ (A = none → c = 0) ∧ (A' = none → c' = 0) ∧ (∀ a, A = some a → R < a.block) ∧ (∀ a, A' = some a → R < a.block) ∧ RdL w' R n ∧ w.grownBy w' (some R)
structure BentS (l : Lev) (A A' : Option Addr) (c c' : Nat) (R n : Nat) (l2 : Array Value) (w u : World) : Prop where
  L : Bk u w.heap.size 87 l2
  Z : Bk u (w.heap.size + 1) 87 #[.int .i64 0, .int .i64 0, .int .i64 0, .int .i64 0, .slice none 0 0, .slice none 0 0, .int .i64 0, .int .i64 0, .int .i64 0, .int .i64 0, .int .i64 0]
  W : Sl u 4 encBx A l.walls.length l.walls
  G : Sl u 4 encBx A' l.gates.length l.gates
  r : RdL u R n
  g : w.grownBy u (some R)
theorem BentS.rd {l : Lev} {A A' : Option Addr} {c c' R n m : Nat} {l2 : Array Value} {w u u' : World} (h : BentS l A A' c c' R n l2 w u) (hR : R < w.heap.size) (hA : ∀ a, A = some a → R < a.block) (hA' : ∀ a, A' = some a → R < a.block) (hg : u.grownBy u' (some R)) (hr : RdL u' R m) : BentS l A A' c c' R m l2 w u' :=
  ⟨h.L.grown hg (by intro e; injection e; omega), h.Z.grown hg (by intro e; injection e; omega), h.W.grown hg (fun a e e2 => by injection e2 with e2; have := hA a e; omega), h.G.grown hg (fun a e e2 => by injection e2 with e2; have := hA' a e; omega), hr, gr_after h.g hg⟩
theorem BentS.below {l : Lev} {A A' : Option Addr} {c c' R n : Nat} {l2 : Array Value} {w u u' : World} (h : BentS l A A' c c' R n l2 w u) (hb : Below u.heap.size u u') : BentS l A A' c c' R n l2 w u' :=
  ⟨h.L.later hb, h.Z.later hb, h.W.below hb, h.G.below hb, h.r.later hb, gr_below h.g hb⟩
theorem BentS.alloc {l : Lev} {A A' : Option Addr} {c c' R n : Nat} {l2 : Array Value} {w u : World} (h : BentS l A A' c c' R n l2 w u) (o : Obj) : BentS l A A' c c' R n l2 w (u.alloc o) := h.below (below_alloc (Below.refl _ _) o)
theorem BentS.own {l : Lev} {A A' : Option Addr} {c c' R n : Nat} {l2 : Array Value} {w u u' : World} {row : Option Nat} (h : BentS l A A' c c' R n l2 w u) (hR : R < w.heap.size) (hA : ∀ a, A = some a → a.block < w.heap.size) (hA' : ∀ a, A' = some a → a.block < w.heap.size) (hg : u.grownBy u' row) (hrow : ∀ g, row = some g → w.heap.size + 2 ≤ g) : BentS l A A' c c' R n l2 w u' :=
  ⟨h.L.grown hg (by intro e; have := hrow _ e.symm; omega), h.Z.grown hg (by intro e; have := hrow _ e.symm; omega), h.W.grown hg (fun a e e2 => by have := hrow _ e2; have := hA a e; omega), h.G.grown hg (fun a e e2 => by have := hrow _ e2; have := hA' a e; omega), h.r.own hg (fun g e => by have := hrow g e; omega), gr_own h.g hg (fun g e => by have := hrow g e; omega)⟩
theorem BentS.more {l : Lev} {A A' : Option Addr} {c c' R n m : Nat} {l2 : Array Value} {w u : World} (h : BentS l A A' c c' R n l2 w u) (hm : n ≤ m) : BentS l A A' c c' R m l2 w u := ⟨h.L, h.Z, h.W, h.G, h.r.more hm, h.g⟩
theorem Sl.far' {α : Type} {w : World} {sz : Nat} {enc : α → List Value} {A : Option Addr} {n : Nat} {l : List α} {p : Addr} (h : Sl w sz enc A n l) (hA : ∀ a, A = some a → a.block ≠ p.block) (v : Value) : Sl (w.setCell p v) sz enc A n l := h.grown (gr_set1 w p v) (fun a e e2 => by injection e2 with e2; exact hA a e e2.symm)
theorem Sl.setsB {B : Nat} {w u : World} {A : Option Addr} {m : Nat} {l : List Bx} (h : Sl w 4 encBx A m l) (hb : Below B w u) (hA : ∀ a, A = some a → a.block < B) : Sl u 4 encBx A m l := ⟨h.1, fun hn => by
    obtain ⟨b, off, e, hlt, hc⟩ := h.2 hn
    exact ⟨b, off, e, Nat.lt_of_lt_of_le hlt hb.size, fun k x hk j v hv => (hb.cell (show b < B from hA _ e)).trans (hc k x hk j v hv)⟩⟩
end Go.Proofs.YtdpoicfciogfnaaDoor

/- The reference's draws of runs: DrawInputsLegal, DrawRunScore, DrawRunHashes, DrawRunTo. (Round B) -/
namespace Go.Proofs.YtdpoicfciogfnaaDoor
open Go.ChangeShapes Go.WideShapes Go.ChangeAt Go.RowKit
/-- What is drawn for the laws of runs: a level, inputs; all of it lies in memory of the call's own. -/
structure Drawn (l : Lev) (A A' : Option Addr) (c c' : Nat) (ins : List Inp) (A2 : Option Addr) (c2 : Nat) (w : World) : Prop where
  nw : l.walls.length ≤ 10
  ng : l.gates.length ≤ 10
  W : Sl w 4 encBx A l.walls.length l.walls
  G : Sl w 4 encBx A' l.gates.length l.gates
  e : A = none → c = 0
  e' : A' = none → c' = 0
  ni : ins.length ≤ 63
  I : Sl w 3 encInp A2 ins.length ins
  ci : ins.length ≤ c2
  e2 : A2 = none → c2 = 0
theorem Drawn.below {l : Lev} {A A' : Option Addr} {c c' : Nat} {ins : List Inp} {A2 : Option Addr} {c2 : Nat} {w w' : World} (h : Drawn l A A' c c' ins A2 c2 w) (hb : Below w.heap.size w w') : Drawn l A A' c c' ins A2 c2 w' :=
  ⟨h.nw, h.ng, h.W.below hb, h.G.below hb, h.e, h.e', h.ni, h.I.below hb, h.ci, h.e2⟩
def RetRun (w : World) (e : Ending) (w' : World) : Prop := ∃ l A A' c c' ins A2 c2, e = .returned (.tuple #[.agg #[.int .i64 l.id, .int .i64 l.ticks, .int .i64 l.start.x, .int .i64 l.start.y, .slice A l.walls.length c, .slice A' l.gates.length c', .int .i64 l.fin.lo.x, .int .i64 l.fin.lo.y, .int .i64 l.fin.hi.x, .int .i64 l.fin.hi.y, .int .i64 l.bans], .slice A2 ins.length c2]) ∧ Drawn l A A' c c' ins A2 c2 w' ∧ ((∀ a, A = some a → w.heap.size ≤ a.block) ∧ (∀ a, A' = some a → w.heap.size ≤ a.block) ∧ (∀ a, A2 = some a → w.heap.size ≤ a.block)) ∧ Below w.heap.size w w'
def RetRunN (w : World) (e : Ending) (w' : World) : Prop := ∃ l A A' c c' ins A2 c2 n, e = .returned (.tuple #[.agg #[.int .i64 l.id, .int .i64 l.ticks, .int .i64 l.start.x, .int .i64 l.start.y, .slice A l.walls.length c, .slice A' l.gates.length c', .int .i64 l.fin.lo.x, .int .i64 l.fin.lo.y, .int .i64 l.fin.hi.x, .int .i64 l.fin.hi.y, .int .i64 l.bans], .slice A2 ins.length c2, .int .i64 n]) ∧ Drawn l A A' c c' ins A2 c2 w' ∧ (-2 ≤ n ∧ n ≤ (ins.length : Int) + 1) ∧ ((∀ a, A = some a → w.heap.size ≤ a.block) ∧ (∀ a, A' = some a → w.heap.size ≤ a.block) ∧ (∀ a, A2 = some a → w.heap.size ≤ a.block)) ∧ Below w.heap.size w w'
theorem own_above {w : World} {B R n c : Nat} {A : Option Addr} {T : TypeId} {l : List Bx} (h : Own w B T 4 encBx (.slice A n c) l) (hR : R < B) : ∀ a, A = some a → R < a.block ∧ a.block < w.heap.size := by
  intro a e
  subst e
  have := h.lt a.block rfl
  omega
end Go.Proofs.YtdpoicfciogfnaaDoor

/- Two equal states, two equal inputs are told equal. (Round B) -/
namespace Go.Proofs.YtdpoicfciogfnaaDoor
open Go.ChangeShapes Go.WideShapes Go.ChangeAt Go.RowKit
theorem eqVecIn (d : Nat) (w : World) (a b c e : Int) : (Op.equalIn (d + 1 + 1) 82 (.agg #[.int .i64 a, .int .i64 b]) (.agg #[.int .i64 c, .int .i64 e])).run Tryd.prog w = .ok (a == c && b == e) w := by
  have hu : Tryd.prog.underlying 82 = some (.struct (Tryd.prog.fieldsOf 82)) := by kernel_rfl
  have hp : Tryd.prog.stoodInHeld 82 = false := by kernel_rfl
  have hi : Tryd.prog.underlying 3 = some (.int .i64) := by kernel_rfl
  have hm : ((Tryd.prog.fieldsOf 82).toList.map fun f => (f.name, f.type, f.offset)) = [("X", 3, 0), ("Y", 3, 1)] := by kernel_rfl
  rw [run_equalIn_struct w _ _ _ _ hu hp]
  clear hu hp
  revert hm
  generalize (Tryd.prog.fieldsOf 82).toList = fs
  intro hm
  obtain ⟨f, fs1, rfl, hf, hm⟩ := List.map_eq_cons_iff.1 hm
  obtain ⟨g, fs2, rfl, hg, hm⟩ := List.map_eq_cons_iff.1 hm
  obtain rfl := List.map_eq_nil_iff.1 hm
  simp only [Prod.mk.injEq] at hf hg
  obtain ⟨f1, f2, f3⟩ := hf
  obtain ⟨g1, g2, g3⟩ := hg
  simp [Op.eqFields, part, go_sem, hi, f1, f2, f3, g1, g2, g3]
  by_cases h1 : a = c <;> by_cases h2 : b = e <;> simp [h1, h2]
set_option maxHeartbeats 1000000 in
theorem eqStIn (s : St) (w : World) : (Op.equalIn 10000 132 (.agg #[.int .i64 s.t, .int .i64 s.p.x, .int .i64 s.p.y, .int .i64 s.f.x, .int .i64 s.f.y, .int .i64 s.d, .int .i64 s.g, .bool s.dn, .bool s.ov]) (.agg #[.int .i64 s.t, .int .i64 s.p.x, .int .i64 s.p.y, .int .i64 s.f.x, .int .i64 s.f.y, .int .i64 s.d, .int .i64 s.g, .bool s.dn, .bool s.ov])).run Tryd.prog w = .ok true w := by
  have hu : Tryd.prog.underlying 132 = some (.struct (Tryd.prog.fieldsOf 132)) := by kernel_rfl
  have hp : Tryd.prog.stoodInHeld 132 = false := by kernel_rfl
  have hi : Tryd.prog.underlying 3 = some (.int .i64) := by kernel_rfl
  have hb : Tryd.prog.underlying 4 = some .bool := by kernel_rfl
  have hv := eqVecIn
  have hm : ((Tryd.prog.fieldsOf 132).toList.map fun f => (f.name, f.type, f.offset)) = [("Tick", 3, 0), ("At", 82, 1), ("Fast", 82, 3), ("Turn", 3, 5), ("Gate", 3, 6), ("Done", 4, 7), ("Over", 4, 8)] := by kernel_rfl
  rw [show (10000 : Nat) = 9999 + 1 from rfl, run_equalIn_struct w _ _ _ _ hu hp]
  clear hu hp
  revert hm
  generalize (Tryd.prog.fieldsOf 132).toList = fs
  intro hm
  obtain ⟨f, fs1, rfl, hf, hm⟩ := List.map_eq_cons_iff.1 hm
  obtain ⟨g, fs2, rfl, hg, hm⟩ := List.map_eq_cons_iff.1 hm
  obtain ⟨h, fs3, rfl, hh, hm⟩ := List.map_eq_cons_iff.1 hm
  obtain ⟨i, fs4, rfl, hI, hm⟩ := List.map_eq_cons_iff.1 hm
  obtain ⟨j, fs5, rfl, hJ, hm⟩ := List.map_eq_cons_iff.1 hm
  obtain ⟨k, fs6, rfl, hK, hm⟩ := List.map_eq_cons_iff.1 hm
  obtain ⟨l, fs7, rfl, hL, hm⟩ := List.map_eq_cons_iff.1 hm
  obtain rfl := List.map_eq_nil_iff.1 hm
  simp only [Prod.mk.injEq] at hf hg hh hI hJ hK hL
  obtain ⟨f1, f2, f3⟩ := hf
  obtain ⟨g1, g2, g3⟩ := hg
  obtain ⟨h1, h2, h3⟩ := hh
  obtain ⟨i1, i2, i3⟩ := hI
  obtain ⟨j1, j2, j3⟩ := hJ
  obtain ⟨k1, k2, k3⟩ := hK
  obtain ⟨l1, l2, l3⟩ := hL
  simp [Op.eqFields, go_sem, hi, hb, hv, f1, f2, f3, g1, g2, g3, h1, h2, h3, i1, i2, i3, j1, j2, j3, k1, k2, k3, l1, l2, l3]
end Go.Proofs.YtdpoicfciogfnaaDoor
