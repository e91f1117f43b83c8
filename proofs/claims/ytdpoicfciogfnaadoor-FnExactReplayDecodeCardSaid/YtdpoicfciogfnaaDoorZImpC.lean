/- Lemmas: ImpC ImpD ImpE ImpF ImpG ImpH ImpI. -/
import Derived.Test.YtdpoicfciogfnaaDoorZImpA
import Derived.Test.YtdpoicfciogfnaaDoorZSpec
import Derived.Laws.StructEq
import Derived.Deep.DeepMust
import Derived.Deep.RegionHeld3
import Derived.Deep.LoopGhost
import Derived.LoopN
import Derived.Test.YtdpoicfciogfnaaDoorZBase
import Derived.Lib.AppendZeros
import Derived.Deep.Cut
import Derived.Deep.CutRange
import Derived.Deep.CutBlock
/- The program's VecClamp, and how fast a car gets. (Round B) -/
namespace Go.Proofs.YtdpoicfciogfnaaDoor
open Go.ChangeShapes Go.WideShapes Go.ChangeAt Go.RowKit
end Go.Proofs.YtdpoicfciogfnaaDoor

/- The program's boxes. (Round B) -/
namespace Go.Proofs.YtdpoicfciogfnaaDoor
open Go.ChangeShapes Go.WideShapes Go.ChangeAt Go.RowKit
/-- A box whose sides run the right way. -/
def ordB (b : Bx) : Prop := b.lo.x ≤ b.hi.x ∧ b.lo.y ≤ b.hi.y
theorem bxOk_ord {b : Bx} (h : bxOk b = true) : ordB b := by
  simp only [bxOk, Bool.and_eq_true, decide_eq_true_eq] at h
  exact ⟨h.2.2.1, h.2.2.2⟩
theorem eqVec_run (w : World) (a b c d : Int) : (binOp .eql 82 (.agg #[.int .i64 a, .int .i64 b]) (.agg #[.int .i64 c, .int .i64 d])).run Tryd.prog w = .ok (.bool (a == c && b == d)) w := by
  have hu : Tryd.prog.underlying 82 = some (.struct (Tryd.prog.fieldsOf 82)) := by kernel_rfl
  have hp : Tryd.prog.stoodInHeld 82 = false := by kernel_rfl
  have hi : Tryd.prog.underlying 3 = some (.int .i64) := by kernel_rfl
  have hm : ((Tryd.prog.fieldsOf 82).toList.map fun f => (f.name, f.type, f.offset)) = [("X", 3, 0), ("Y", 3, 1)] := by kernel_rfl
  rw [run_eql_struct, run_equalIn_struct w _ _ _ _ hu hp]
  clear hu hp
  revert hm
  generalize (Tryd.prog.fieldsOf 82).toList = fs
  intro hm
  obtain ⟨f, fs1, rfl, hf, hm⟩ := List.map_eq_cons_iff.1 hm
  obtain ⟨g, fs2, rfl, hg, hm⟩ := List.map_eq_cons_iff.1 hm
  obtain rfl := List.map_eq_nil_iff.1 hm
  simp only [Prod.mk.injEq] at hf hg
  obtain ⟨f1, f2, f3⟩ := hf
  obtain ⟨g1, g2, g3⟩ := hg
  simp [Op.eqFields, part, go_sem, hi, f1, f2, f3, g1, g2, g3]
  by_cases h1 : a = c <;> by_cases h2 : b = d <;> simp [h1, h2]
theorem near_in {b : Bx} {v : V2} (ho : ordB b) : ((nearV b v).x == v.x && (nearV b v).y == v.y) = hasV b v := by
  obtain ⟨o1, o2⟩ := ho
  rw [Bool.eq_iff_iff]
  simp only [hasV, inR, nearV, Bool.and_eq_true, beq_iff_eq, decide_eq_true_eq]
  omega
theorem keepBV {W w' : World} {g g' : Nat} {t t' : TypeId} {x0 x1 x2 x3 y0 y1 : Value} (hA : Bk W g t #[x0, x1, x2, x3]) (hB : Bk W g' t' #[y0, y1]) (h : Below W.heap.size W w') :
    (w'.cell? ⟨g, 0, none⟩ = some x0 ∧ w'.cell? ⟨g, 1, none⟩ = some x1 ∧ w'.cell? ⟨g, 2, none⟩ = some x2 ∧ w'.cell? ⟨g, 3, none⟩ = some x3) ∧ w'.cell? ⟨g', 0, none⟩ = some y0 ∧ w'.cell? ⟨g', 1, none⟩ = some y1 :=
  ⟨(hA.later h).c4.1, (hB.later h).c2.1⟩
end Go.Proofs.YtdpoicfciogfnaaDoor

/- The program's BoxValid, its linked walls, free. (Round B) -/
namespace Go.Proofs.YtdpoicfciogfnaaDoor
open Go.ChangeShapes Go.WideShapes Go.ChangeAt Go.RowKit Go.Shelf
attribute [local go_sem] Oper.semAt_some
theorem bxOk_no {b : Bx} (h : ¬ (b.lo.x ≤ b.hi.x ∧ b.lo.y ≤ b.hi.y)) : bxOk b = false := by
  rw [Bool.eq_false_iff]
  intro h2
  exact h (bxOk_ord h2)
theorem bxOk_split {b : Bx} (h : b.lo.x ≤ b.hi.x ∧ b.lo.y ≤ b.hi.y) : bxOk b = (vOk b.lo && vOk b.hi) := by
  simp [bxOk, h.1, h.2]
theorem axis0 (w : World) (a b c d : Int) : (Instr.index 209 (.agg #[.int .i64 a, .int .i64 b, .int .i64 c, .int .i64 d]) (.int .i64 0)).run Tryd.prog w = .ok (.agg #[.int .i64 a, .int .i64 b]) w := by kernel_rfl
theorem axis1 (w : World) (a b c d : Int) : (Instr.index 209 (.agg #[.int .i64 a, .int .i64 b, .int .i64 c, .int .i64 d]) (.int .i64 1)).run Tryd.prog w = .ok (.agg #[.int .i64 c, .int .i64 d]) w := by kernel_rfl
theorem rnds_world {m : Nat} {P : Program} {c : Code} {Q : Exit → Act → World → Prop} {a : Act} {w0 : World} (Fw : World → Prop) (h0 : Fw w0) (h : ∀ w1, Fw w1 → Code.rounds P c Q m a w1) : Code.rounds P c Q m a w0 := h w0 h0
def bw (l : List Bx) (k : Nat) : Bx := (l[l.length - 1 - k]?).getD ⟨⟨0, 0⟩, ⟨0, 0⟩⟩
theorem bw_at {l : List Bx} {k m : Nat} {x : Bx} (hm : l.length - 1 - k = m) (hx : l[m]? = some x) : bw l k = x := by unfold bw; rw [hm, hx]; rfl
theorem drop_bw {l : List Bx} {k : Nat} (hk : k < l.length) : l.drop (l.length - (k + 1)) = bw l k :: l.drop (l.length - k) := by
  have e : l.length - (k + 1) = l.length - 1 - k := by omega
  rw [e, List.drop_eq_getElem_cons (by omega), show l.length - 1 - k + 1 = l.length - k by omega, bw_at rfl (List.getElem?_eq_getElem _)]
theorem free_no {l : Lev} {v : V2} {dn rest : List Bx} {b : Bx} (e : l.walls = dn ++ b :: rest) (h : touchB b v 500 = true) : freeB l v = false := by
  unfold freeB
  rw [e, List.all_append, List.all_cons, h]
  simp
theorem free_yes {l : Lev} {v : V2} (h : ∀ b ∈ l.walls, touchB b v 500 = false) : freeB l v = true := by
  unfold freeB
  rw [List.all_eq_true]
  intro b hb
  rw [h b hb]
  rfl
end Go.Proofs.YtdpoicfciogfnaaDoor

/- The program's LevelValid: all boxes of a level in one slice; is one of them no box. (Round B) -/
namespace Go.Proofs.YtdpoicfciogfnaaDoor
open Go.ChangeShapes Go.WideShapes Go.ChangeAt Go.RowKit
theorem Tryd.infoBox : (Tryd.prog.info? 85).map (fun i => (i.zero, i.size, i.bytes)) = some (some (.agg #[.int .i64 0, .int .i64 0, .int .i64 0, .int .i64 0]), 4, 32) := by kernel_rfl
theorem one_bx (b : Bx) : ∀ u ∈ encBx b, u.oneCell' = true := by
  intro u hu
  simp only [encBx, List.mem_cons, List.not_mem_nil, or_false] at hu
  rcases hu with rfl | rfl | rfl | rfl <;> rfl
theorem own_new_nil {α : Type} {enc : α → List Value} {w : World} {T : TypeId} {sz cap B : Nat} {cs : Array Value} (hB : B ≤ w.heap.size) (hc : cap ≤ maxLen) (hs : cs.size = cap * sz) : Own (w.alloc (.cells cs T)) B T sz enc (.slice (some ⟨w.heap.size, 0, none⟩) 0 cap) [] := by
  refine ⟨by simp, .inr ⟨w.heap.size, cap, cs, rfl, hB, heap_alloc_new w _, Nat.zero_le _, hc, hs, by simp⟩⟩
def allBx (l : Lev) : List Bx := l.walls ++ l.gates ++ [l.fin]
theorem allBx_ok (l : Lev) : (allBx l).all bxOk = (boxesB l.walls && (boxesB l.gates && bxOk l.fin)) := by simp [allBx, boxesB, List.all_append]
end Go.Proofs.YtdpoicfciogfnaaDoor

/- The program's LevelValid and what asks for it. (Round B) -/
namespace Go.Proofs.YtdpoicfciogfnaaDoor
open Go.ChangeShapes Go.WideShapes Go.ChangeAt Go.RowKit
def headB (l : Lev) : Bool := inR 0 99 l.id && (inR 1 60 l.ticks && (vOk l.start && inR 0 3 l.bans))
def tailB (l : Lev) : Bool := decide (l.walls.length ≤ 4) && (decide (l.gates.length ≤ 3) && (allBx l).all bxOk)
theorem levOk_parts (l : Lev) : levOk l = (headB l && (tailB l && freeB l l.start)) := by
  unfold levOk headB tailB
  rw [allBx_ok, Bool.eq_iff_iff]
  simp only [Bool.and_eq_true]
  constructor
  · rintro ⟨a, b, c, d, e, f, g, h, i, j⟩; exact ⟨⟨a, b, c, i⟩, ⟨d, f, e, g, h⟩, j⟩
  · rintro ⟨⟨a, b, c, i⟩, ⟨d, f, e, g, h⟩, j⟩; exact ⟨a, b, c, d, e, f, g, h, i, j⟩
theorem vOk_xy (v : V2) : vOk ⟨v.x, v.y⟩ = vOk v := rfl
end Go.Proofs.YtdpoicfciogfnaaDoor

/- The program's tick. (Round B) -/
namespace Go.Proofs.YtdpoicfciogfnaaDoor
open Go.ChangeShapes Go.WideShapes Go.ChangeAt Go.RowKit
/-- While the car moves: the level, the state, the result, the state as it was. -/
structure TickS (l : Lev) (A : Option Addr) (c : Nat) (A' : Option Addr) (c' : Nat) (t : Int) (p0 f0 : V2) (d0 g0 : Int) (dn : Bool) (d g : Int) (p f : V2) (w W : World) : Prop where
  L : Bk W (w.heap.size + 1) 87 #[.int .i64 l.id, .int .i64 l.ticks, .int .i64 l.start.x, .int .i64 l.start.y, .slice A l.walls.length c, .slice A' l.gates.length c', .int .i64 l.fin.lo.x, .int .i64 l.fin.lo.y, .int .i64 l.fin.hi.x, .int .i64 l.fin.hi.y, .int .i64 l.bans]
  S : Bk W (w.heap.size + 1 + 1) 132 #[.int .i64 (t + 1), .int .i64 p.x, .int .i64 p.y, .int .i64 f.x, .int .i64 f.y, .int .i64 d, .int .i64 g, .bool dn, .bool false]
  R : Bk W (w.heap.size + 1 + 1 + 1) 132 #[.int .i64 0, .int .i64 0, .int .i64 0, .int .i64 0, .int .i64 0, .int .i64 0, .int .i64 0, .bool false, .bool false]
  O : Bk W (w.heap.size + 1 + 1 + 1 + 1) 132 #[.int .i64 t, .int .i64 p0.x, .int .i64 p0.y, .int .i64 f0.x, .int .i64 f0.y, .int .i64 d0, .int .i64 g0, .bool dn, .bool false]
  B : Below w.heap.size w W
theorem ex_world {K : Exit → Act → World → Prop} {e : Exit} {a : Act} {w0 : World} (F : World → Prop) (h0 : F w0) (h : ∀ w1, F w1 → K e a w1) : K e a w0 := h w0 h0
structure TickG (l : Lev) (A : Option Addr) (c : Nat) (A' : Option Addr) (c' : Nat) (t : Int) (dn : Bool) (d g : Int) (p f : V2) (w W : World) : Prop where
  L : Bk W (w.heap.size + 1) 87 #[.int .i64 l.id, .int .i64 l.ticks, .int .i64 l.start.x, .int .i64 l.start.y, .slice A l.walls.length c, .slice A' l.gates.length c', .int .i64 l.fin.lo.x, .int .i64 l.fin.lo.y, .int .i64 l.fin.hi.x, .int .i64 l.fin.hi.y, .int .i64 l.bans]
  S : Bk W (w.heap.size + 1 + 1) 132 #[.int .i64 (t + 1), .int .i64 p.x, .int .i64 p.y, .int .i64 f.x, .int .i64 f.y, .int .i64 d, .int .i64 g, .bool dn, .bool false]
  R : Bk W (w.heap.size + 1 + 1 + 1) 132 #[.int .i64 0, .int .i64 0, .int .i64 0, .int .i64 0, .int .i64 0, .int .i64 0, .int .i64 0, .bool false, .bool false]
  B : Below w.heap.size w W
theorem drive_eq {l : Lev} {t : Int} {p f : V2} {d g : Int} {dn : Bool} {st pw : Int} {z : Bool} {dd : Int} {ff mm vv : V2} (h1 : turnOf d st = dd) (h2 : fastV f dd pw = ff) (h3 : moveV l p ff = (mm, vv)) :
    driveS l ⟨t, p, f, d, g, dn, false⟩ ⟨st, pw, z⟩ = if vOk mm then ⟨t, mm, vv, dd, if gateB l g mm then g + 1 else g, (if gateB l g mm then g + 1 else g) == (l.gates.length : Int) && hasV l.fin mm, false⟩ else ⟨t, p, f, d, g, dn, true⟩ := by
  subst h1
  subst h2
  unfold driveS
  simp only [h3]
theorem gateB_in {l : Lev} {k : Nat} {x : Bx} {v : V2} (hx : l.gates[k]? = some x) : gateB l (k : Int) v = hasV x v := by
  unfold gateB
  rw [Int.toNat_natCast, hx]
  simp
theorem gateB_out {l : Lev} {k : Nat} {v : V2} (hx : l.gates.length ≤ k) : gateB l (k : Int) v = false := by
  unfold gateB
  rw [Int.toNat_natCast, List.getElem?_eq_none hx]
theorem mvX_bd {l : Lev} {p f : V2} (hp : vOk p = true) (hf : fOk f) : (-1002000 ≤ (moveX l p f).1.x ∧ (moveX l p f).1.x ≤ 1002000) ∧ (moveX l p f).1.y = p.y ∧ fOk (moveX l p f).2 := by
  obtain ⟨f1, f2, f3, f4⟩ := fOk_bd hf
  obtain ⟨p1, p2, p3, p4⟩ := vOk_iff.1 hp
  unfold moveX
  split
  · exact ⟨⟨by simp only; omega, by simp only; omega⟩, rfl, hf⟩
  · refine ⟨⟨by simp only; omega, by simp only; omega⟩, rfl, fOk_less hf ?_ (Nat.le_refl _)⟩
    simp only [Int.natAbs_neg]
    exact tdiv_abs _ _
theorem mvY_bd {l : Lev} {p f : V2} (hp : -1002000 ≤ p.x ∧ p.x ≤ 1002000 ∧ -1000000 ≤ p.y ∧ p.y ≤ 1000000) (hf : fOk f) : (moveY l p f).1.x = p.x ∧ (-1002000 ≤ (moveY l p f).1.y ∧ (moveY l p f).1.y ≤ 1002000) ∧ fOk (moveY l p f).2 := by
  obtain ⟨f1, f2, f3, f4⟩ := fOk_bd hf
  unfold moveY
  split
  · exact ⟨rfl, ⟨by simp only; omega, by simp only; omega⟩, hf⟩
  · refine ⟨rfl, ⟨by simp only; omega, by simp only; omega⟩, fOk_less hf (Nat.le_refl _) ?_⟩
    simp only [Int.natAbs_neg]
    exact tdiv_abs _ _
end Go.Proofs.YtdpoicfciogfnaaDoor

/- The program's after. (Round B) -/
namespace Go.Proofs.YtdpoicfciogfnaaDoor
open Go.ChangeShapes Go.WideShapes Go.ChangeAt Go.RowKit
end Go.Proofs.YtdpoicfciogfnaaDoor
