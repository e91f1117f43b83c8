/- Draws of runs: l92Run. -/
import Derived.Test.YtkendoffknjpiaaDrA
import Derived.Test.YtkendoffknjpiaaDrB
import Derived.Test.YtkendoffknjpiaaSpecG
import Derived.Test.YtkendoffknjpiaaSpecE
import Derived.Test.YtkendoffknjpiaaPRun
import Derived.Test.YtkendoffknjpiaaRInp
import Derived.Deep.CutRange
import Derived.Deep.LoopGhost
import Derived.Deep.RegionHeld3
namespace Go.Proofs.Ytkendoffknjpiaa
open Go.ChangeShapes Go.WideShapes Go.ChangeAt Go.RowKit
theorem Sl.one_at {α : Type} {enc : α → List Value} {sz : Nat} (w : World) (x : α) (T : TypeId) (cs : Array Value) (hcs : cs.toList = enc x) {g : Nat} (hg : w.heap.size = g) : Sl (w.alloc (.cells cs T)) sz enc (some ⟨g, 0, none⟩) 1 [x] := hg ▸ Sl.one w x T cs hcs
theorem Sl.drew {α : Type} {w : World} {sz : Nat} {enc : α → List Value} {A : Option Addr} {n : Nat} {l : List α} (h : Sl w sz enc A n l) : Sl w.drew sz enc A n l := h
/-- What stands in a round of l92Run. -/
structure RunS (l : Lev) (A A' : Option Addr) (c c' : Nat) (R n N I S : Nat) (b : Inp) (s : St) (w u : World) : Prop where
  L : Bk u N 95 #[.int .i64 l.id, .int .i64 l.ticks, .int .i64 l.start.x, .int .i64 l.start.y, .slice A l.walls.length c, .slice A' l.gates.length c', .int .i64 l.fin.lo.x, .int .i64 l.fin.lo.y, .int .i64 l.fin.hi.x, .int .i64 l.fin.hi.y, .int .i64 l.bans]
  B : Bk u I 60 #[.int .i64 b.s, .int .i64 b.p, .bool b.z]
  T : Bk u S 111 #[.int .i64 s.t, .int .i64 s.p.x, .int .i64 s.p.y, .int .i64 s.f.x, .int .i64 s.f.y, .int .i64 s.d, .int .i64 s.g, .bool s.dn, .bool s.ov]
  r : RdL u R n
  g : w.grownBy u (some R)
  hW : Sl u 4 encBx A l.walls.length l.walls
  hG : Sl u 4 encBx A' l.gates.length l.gates
section
variable {l : Lev} {A A' : Option Addr} {c c' : Nat} {R n N I S : Nat} {b : Inp} {s : St} {w u u' : World}
theorem RunS.below (h : RunS l A A' c c' R n N I S b s w u) (hb : Below u.heap.size u u') : RunS l A A' c c' R n N I S b s w u' :=
  ⟨h.L.later hb, h.B.later hb, h.T.later hb, h.r.later hb, gr_below h.g hb, h.hW.below hb, h.hG.below hb⟩
theorem RunS.alloc (h : RunS l A A' c c' R n N I S b s w u) (o : Obj) : RunS l A A' c c' R n N I S b s w (u.alloc o) := h.below (below_alloc (Below.refl _ _) o)
theorem RunS.drew (h : RunS l A A' c c' R n N I S b s w u) : RunS l A A' c c' R n N I S b s w u.drew := h.below (below_drew (Below.refl _ _))
theorem RunS.rd {m : Nat} (h : RunS l A A' c c' R n N I S b s w u) (hg : u.grownBy u' (some R)) (hr : RdL u' R m) (h1 : R < N) (h2 : R < I) (h3 : R < S) (hA : ∀ a, A = some a → R < a.block) (hA' : ∀ a, A' = some a → R < a.block) : RunS l A A' c c' R m N I S b s w u' :=
  ⟨h.L.grown hg (by intro e; injection e; omega), h.B.grown hg (by intro e; injection e; omega), h.T.grown hg (by intro e; injection e; omega), hr, gr_after h.g hg,
   h.hW.grown hg (fun a e e2 => by injection e2 with e2; have := hA a e; omega), h.hG.grown hg (fun a e e2 => by injection e2 with e2; have := hA' a e; omega)⟩
theorem RunS.own {row : Option Nat} (h : RunS l A A' c c' R n N I S b s w u) (hg : u.grownBy u' row) (hrow : ∀ g, row = some g → S < g) (h1 : N < S) (h2 : I < S) (h3 : R < S) (hs : w.heap.size ≤ S) (hA : ∀ a, A = some a → a.block < S) (hA' : ∀ a, A' = some a → a.block < S) : RunS l A A' c c' R n N I S b s w u' :=
  ⟨h.L.grown hg (by intro e; have := hrow _ e.symm; omega), h.B.grown hg (by intro e; have := hrow _ e.symm; omega), h.T.grown hg (by intro e; have := hrow _ e.symm; omega),
   h.r.own hg (fun g e => by have := hrow g e; omega), gr_own h.g hg (fun g e => by have := hrow g e; omega),
   h.hW.grown hg (fun a e e2 => by have := hrow _ e2; have := hA a e; omega), h.hG.grown hg (fun a e e2 => by have := hrow _ e2; have := hA' a e; omega)⟩
theorem RunS.more {m : Nat} (h : RunS l A A' c c' R n N I S b s w u) (hm : n ≤ m) : RunS l A A' c c' R m N I S b s w u := ⟨h.L, h.B, h.T, h.r.more hm, h.g, h.hW, h.hG⟩
end
theorem gr_set1 (w : World) (p : Addr) (v : Value) : w.grownBy (w.setCell p v) (some p.block) :=
  ⟨rfl, rfl, rfl, by simp, fun k hk hn => Below.heap_setCell w p v k (fun e => hn (by rw [e]))⟩
theorem Sl.far {α : Type} {w : World} {sz : Nat} {enc : α → List Value} {A : Option Addr} {n : Nat} {l : List α} {p : Addr} (h : Sl w sz enc A n l) (hA : ∀ a, A = some a → a.block ≠ p.block) (v : Value) : Sl (w.setCell p v) sz enc A n l :=
  h.grown (gr_set1 w p v) fun a e e2 => by injection e2 with e2; exact hA a e e2.symm
section
variable {l : Lev} {A A' : Option Addr} {c c' : Nat} {R n N I S : Nat} {b : Inp} {s : St} {w u u' : World}
theorem RunS.farX {p : Addr} (h : RunS l A A' c c' R n N I S b s w u) (hp : S < p.block) (h1 : N < S) (h2 : I < S) (h3 : R < S) (hs : w.heap.size ≤ S) (hA : ∀ a, A = some a → a.block < S) (hA' : ∀ a, A' = some a → a.block < S) (v : Value) : RunS l A A' c c' R n N I S b s w (u.setCell p v) :=
  h.own (gr_set1 u p v) (fun g e => by injection e with e; omega) h1 h2 h3 hs hA hA'
theorem RunS.setB (h : RunS l A A' c c' R n N I S b s w u) (x : Inp) (h1 : N < I) (h2 : I < S) (h3 : R < I) (hs : w.heap.size ≤ I) (hA : ∀ a, A = some a → a.block < I) (hA' : ∀ a, A' = some a → a.block < I) :
    RunS l A A' c c' R n N I S x s w (((u.setCell ⟨I, 0, none⟩ (.int .i64 x.s)).setCell ⟨I, 1, none⟩ (.int .i64 x.p)).setCell ⟨I, 2, none⟩ (.bool x.z)) := by
  have f1 := fun a e => Nat.ne_of_lt (hA a e)
  have f2 := fun a e => Nat.ne_of_lt (hA' a e)
  have f3 : N ≠ I := by omega
  have f4 : S ≠ I := by omega
  have hB := h.B
  exact ⟨((h.L.far f3 _).far f3 _).far f3 _, by (repeat (first | (with_reducible assumption) | (with_reducible exact Bk.new _ _ _ (by simp; done)) | (with_reducible refine Bk.alloc ?_ _) | (with_reducible refine Bk.drew ?_) | (with_reducible refine Bk.drewN ?_ _) | (with_reducible apply Bk.set') | (with_reducible refine Bk.far ?_ (by first | omega | (simp; done) | (simp; omega)) _) | (with_reducible refine Bk.later ?_ (by assumption)) | (with_reducible refine Bk.grown ?_ (by assumption) (by first | omega | (simp; done) | (simp; omega))) | (exact SetTo.mk (by with_reducible rfl)) | (exact SetTo.mk (by simp)))), ((h.T.far f4 _).far f4 _).far f4 _, ((h.r.far h3 _).far h3 _).far h3 _, gr_set hs (gr_set hs (gr_set hs h.g _) _) _, ((h.hW.far f1 _).far f1 _).far f1 _, ((h.hG.far f2 _).far f2 _).far f2 _⟩
theorem RunS.setT (h : RunS l A A' c c' R n N I S b s w u) (s2 : St) (h1 : N < I) (h2 : I < S) (h3 : R < S) (hs : w.heap.size ≤ S) (hA : ∀ a, A = some a → a.block < S) (hA' : ∀ a, A' = some a → a.block < S) :
    RunS l A A' c c' R n N I S b s2 w (((((((((u.setCell ⟨S, 0, none⟩ (.int .i64 s2.t)).setCell ⟨S, 1, none⟩ (.int .i64 s2.p.x)).setCell ⟨S, 2, none⟩ (.int .i64 s2.p.y)).setCell ⟨S, 3, none⟩ (.int .i64 s2.f.x)).setCell ⟨S, 4, none⟩ (.int .i64 s2.f.y)).setCell ⟨S, 5, none⟩ (.int .i64 s2.d)).setCell ⟨S, 6, none⟩ (.int .i64 s2.g)).setCell ⟨S, 7, none⟩ (.bool s2.dn)).setCell ⟨S, 8, none⟩ (.bool s2.ov)) := by
  have f1 := fun a e => Nat.ne_of_lt (hA a e)
  have f2 := fun a e => Nat.ne_of_lt (hA' a e)
  have f3 : N ≠ S := by omega
  have f4 : I ≠ S := by omega
  have hT := h.T
  exact ⟨(((((((((h.L.far f3 _).far f3 _).far f3 _).far f3 _).far f3 _).far f3 _).far f3 _).far f3 _).far f3 _), (((((((((h.B.far f4 _).far f4 _).far f4 _).far f4 _).far f4 _).far f4 _).far f4 _).far f4 _).far f4 _), by (repeat (first | (with_reducible assumption) | (with_reducible exact Bk.new _ _ _ (by simp; done)) | (with_reducible refine Bk.alloc ?_ _) | (with_reducible refine Bk.drew ?_) | (with_reducible refine Bk.drewN ?_ _) | (with_reducible apply Bk.set') | (with_reducible refine Bk.far ?_ (by first | omega | (simp; done) | (simp; omega)) _) | (with_reducible refine Bk.later ?_ (by assumption)) | (with_reducible refine Bk.grown ?_ (by assumption) (by first | omega | (simp; done) | (simp; omega))) | (exact SetTo.mk (by with_reducible rfl)) | (exact SetTo.mk (by simp)))), (((((((((h.r.far h3 _).far h3 _).far h3 _).far h3 _).far h3 _).far h3 _).far h3 _).far h3 _).far h3 _), (gr_set hs (gr_set hs (gr_set hs (gr_set hs (gr_set hs (gr_set hs (gr_set hs (gr_set hs (gr_set hs h.g _) _) _) _) _) _) _) _) _), (((((((((h.hW.far f1 _).far f1 _).far f1 _).far f1 _).far f1 _).far f1 _).far f1 _).far f1 _).far f1 _), (((((((((h.hG.far f2 _).far f2 _).far f2 _).far f2 _).far f2 _).far f2 _).far f2 _).far f2 _).far f2 _)⟩
end
theorem legal_none' {l : Lev} {ins : List Inp} (h : legal l ins < 0) : ∀ j, j < ins.length → badAt l ins j = false := by
  rcases legal_cases l ins with ⟨_, h1⟩ | ⟨k, _, h1, _⟩
  · exact h1
  · omega
theorem steer_legal {l : Lev} {ins : List Inp} (h : legal l ins < 0) : -1 ≤ steerOf ins ∧ steerOf ins ≤ 1 := by
  have := steer_bd (legal_none' h) (Nat.le_refl _)
  rwa [List.take_length] at this
theorem keepX {w : World} {g : Nat} {t : TypeId} {a b c : Value} (h : Bk w g t #[a, b, c]) : w.cell? ⟨g, 0, none⟩ = some a ∧ w.cell? ⟨g, 1, none⟩ = some b ∧ w.cell? ⟨g, 2, none⟩ = some c := ⟨h.cell 0, h.cell 1, h.cell 2⟩
def RetIns (P : List Inp → Prop) (R n : Nat) (w : World) (e : Ending) (w' : World) : Prop :=
  ∃ (ins : List Inp) (A : Option Addr) (c : Nat), e = .returned (.slice A ins.length c) ∧ P ins ∧ Own w' w.heap.size 60 3 encInp (.slice A ins.length c) ins ∧ RdL w' R n ∧ w.grownBy w' (some R)
set_option maxRecDepth 100000 in
set_option maxHeartbeats 4000000 in
theorem l92Run_any (l : Lev) (A A' : Option Addr) (c c' : Nat) (R n : Nat) (w : World) (h : RdL w R n) (hn : n ≤ 800000) (hl : LevD l) (hW : Sl w 4 encBx A l.walls.length l.walls) (hG : Sl w 4 encBx A' l.gates.length l.gates)
    (hA : ∀ a, A = some a → R < a.block ∧ a.block < w.heap.size) (hA' : ∀ a, A' = some a → R < a.block ∧ a.block < w.heap.size) :
    Calls Try.prog 79 #[.pointer (some ⟨R, 0, none⟩), .agg #[.int .i64 l.id, .int .i64 l.ticks, .int .i64 l.start.x, .int .i64 l.start.y, .slice A l.walls.length c, .slice A' l.gates.length c', .int .i64 l.fin.lo.x, .int .i64 l.fin.lo.y, .int .i64 l.fin.hi.x, .int .i64 l.fin.hi.y, .int .i64 l.bans]] w (RetIns (fun ins => legal l ins < 0) R (n + 200) w) := by
  have hRl := h.lt
  obtain ⟨i0, hi, hz0, hz1, hz2⟩ := info_parts Try.infoInp
  have g0 := hl.G.b0
  have g1 := hl.G.b1
  go_enter Try.func79, Try.ntmps79
  go_wp2_with fail
  refine (pick_n R n 40 _ (by (repeat (first | (with_reducible assumption) | (with_reducible refine RdL.alloc ?_ _) | (with_reducible refine RdL.drew ?_) | (with_reducible refine RdL.drewN ?_ _) | (with_reducible refine RdL.far ?_ (by first | omega | (simp; done) | (simp; omega)) _) | (with_reducible refine RdL.later ?_ (by assumption))))) (by omega) (by omega) (by omega)).mono ?_
  rintro e w1 ⟨p1, rfl, p1_0, p1_1, hR1, hg1⟩
  have L1 : Bk w1 w.heap.size 95 #[.int .i64 l.id, .int .i64 l.ticks, .int .i64 l.start.x, .int .i64 l.start.y, .slice A l.walls.length c, .slice A' l.gates.length c', .int .i64 l.fin.lo.x, .int .i64 l.fin.lo.y, .int .i64 l.fin.hi.x, .int .i64 l.fin.hi.y, .int .i64 l.bans] := by (repeat (first | (with_reducible assumption) | (with_reducible exact Bk.new _ _ _ (by simp; done)) | (with_reducible refine Bk.alloc ?_ _) | (with_reducible refine Bk.drew ?_) | (with_reducible refine Bk.drewN ?_ _) | (with_reducible apply Bk.set') | (with_reducible refine Bk.far ?_ (by first | omega | (simp; done) | (simp; omega)) _) | (with_reducible refine Bk.later ?_ (by assumption)) | (with_reducible refine Bk.grown ?_ (by assumption) (by first | omega | (simp; done) | (simp; omega))) | (exact SetTo.mk (by with_reducible rfl)) | (exact SetTo.mk (by simp))))
  have B1 : Bk w1 (w.heap.size + 1 + 1) 60 #[.int .i64 0, .int .i64 0, .bool false] := by (repeat (first | (with_reducible assumption) | (with_reducible exact Bk.new _ _ _ (by simp; done)) | (with_reducible refine Bk.alloc ?_ _) | (with_reducible refine Bk.drew ?_) | (with_reducible refine Bk.drewN ?_ _) | (with_reducible apply Bk.set') | (with_reducible refine Bk.far ?_ (by first | omega | (simp; done) | (simp; omega)) _) | (with_reducible refine Bk.later ?_ (by assumption)) | (with_reducible refine Bk.grown ?_ (by assumption) (by first | omega | (simp; done) | (simp; omega))) | (exact SetTo.mk (by with_reducible rfl)) | (exact SetTo.mk (by simp))))
  have O1 : Own w1 (w.heap.size + 1) 60 3 encInp (.slice (some ⟨w.heap.size + 1, 0, none⟩) 0 0) [] := ((own_nil_inp (w.alloc (.cells #[.int .i64 l.id, .int .i64 l.ticks, .int .i64 l.start.x, .int .i64 l.start.y, .slice A l.walls.length c, .slice A' l.gates.length c', .int .i64 l.fin.lo.x, .int .i64 l.fin.lo.y, .int .i64 l.fin.hi.x, .int .i64 l.fin.hi.y, .int .i64 l.bans] 95)) (w.heap.size + 1) (w.heap.size + 1) 60 (by simp) (by simp)).alloc _).gk hg1 (by omega)
  have W1 := (((hW.below (below_alloc (Below.refl _ _) _)).below (below_alloc (Below.refl _ _) _)).below (below_alloc (Below.refl _ _) _)).grown hg1 (fun a e e2 => by injection e2 with e2; have := (hA a e).1; omega)
  have G1 := (((hG.below (below_alloc (Below.refl _ _) _)).below (below_alloc (Below.refl _ _) _)).below (below_alloc (Below.refl _ _) _)).grown hg1 (fun a e e2 => by injection e2 with e2; have := (hA' a e).1; omega)
  have hgr1 : w.grownBy w1 (some R) := by (repeat (first | (with_reducible assumption) | (with_reducible exact grownBy_refl _ _) | (with_reducible refine gr_alloc ?_ _) | (with_reducible refine gr_set (by first | omega | (simp; done) | (simp; omega)) ?_ _) | (with_reducible refine gr_drew ?_) | (with_reducible refine gr_drewN ?_ _) | (with_reducible refine gr_after ?_ (by assumption)) | (with_reducible refine gr_below ?_ (by assumption))))
  have hsz1 := hg1.size
  have hRl1 := hR1.lt
  have Bz1 := B1.lt
  clear hg1 hW hG
  go_wp2_with fail
  refine (pick_n R (n + 1) 3 _ (by (repeat (first | (with_reducible assumption) | (with_reducible refine RdL.alloc ?_ _) | (with_reducible refine RdL.drew ?_) | (with_reducible refine RdL.drewN ?_ _) | (with_reducible refine RdL.far ?_ (by first | omega | (simp; done) | (simp; omega)) _) | (with_reducible refine RdL.later ?_ (by assumption))))) (by omega) (by omega) (by omega)).mono ?_
  rintro e w2 ⟨p2, rfl, p2_0, p2_1, hR2, hg2⟩
  have L2 : Bk w2 w.heap.size 95 #[.int .i64 l.id, .int .i64 l.ticks, .int .i64 l.start.x, .int .i64 l.start.y, .slice A l.walls.length c, .slice A' l.gates.length c', .int .i64 l.fin.lo.x, .int .i64 l.fin.lo.y, .int .i64 l.fin.hi.x, .int .i64 l.fin.hi.y, .int .i64 l.bans] := by (repeat (first | (with_reducible assumption) | (with_reducible exact Bk.new _ _ _ (by simp; done)) | (with_reducible refine Bk.alloc ?_ _) | (with_reducible refine Bk.drew ?_) | (with_reducible refine Bk.drewN ?_ _) | (with_reducible apply Bk.set') | (with_reducible refine Bk.far ?_ (by first | omega | (simp; done) | (simp; omega)) _) | (with_reducible refine Bk.later ?_ (by assumption)) | (with_reducible refine Bk.grown ?_ (by assumption) (by first | omega | (simp; done) | (simp; omega))) | (exact SetTo.mk (by with_reducible rfl)) | (exact SetTo.mk (by simp))))
  have B2 : Bk w2 (w.heap.size + 1 + 1) 60 #[.int .i64 0, .int .i64 0, .bool false] := by (repeat (first | (with_reducible assumption) | (with_reducible exact Bk.new _ _ _ (by simp; done)) | (with_reducible refine Bk.alloc ?_ _) | (with_reducible refine Bk.drew ?_) | (with_reducible refine Bk.drewN ?_ _) | (with_reducible apply Bk.set') | (with_reducible refine Bk.far ?_ (by first | omega | (simp; done) | (simp; omega)) _) | (with_reducible refine Bk.later ?_ (by assumption)) | (with_reducible refine Bk.grown ?_ (by assumption) (by first | omega | (simp; done) | (simp; omega))) | (exact SetTo.mk (by with_reducible rfl)) | (exact SetTo.mk (by simp))))
  have O2 : Own w2 (w.heap.size + 1) 60 3 encInp (.slice (some ⟨w.heap.size + 1, 0, none⟩) 0 0) [] := O1.gk hg2 (by omega)
  have W2 := W1.grown hg2 (fun a e e2 => by injection e2 with e2; have := (hA a e).1; omega)
  have G2 := G1.grown hg2 (fun a e e2 => by injection e2 with e2; have := (hA' a e).1; omega)
  have hgr2 : w.grownBy w2 (some R) := by (repeat (first | (with_reducible assumption) | (with_reducible exact grownBy_refl _ _) | (with_reducible refine gr_alloc ?_ _) | (with_reducible refine gr_set (by first | omega | (simp; done) | (simp; omega)) ?_ _) | (with_reducible refine gr_drew ?_) | (with_reducible refine gr_drewN ?_ _) | (with_reducible refine gr_after ?_ (by assumption)) | (with_reducible refine gr_below ?_ (by assumption))))
  have hsz2 := hgr2.size
  have hRl2 := hR2.lt
  have Bz2 := B2.lt
  have Lz2 := L2.lt
  clear hg2 L1 B1 O1 W1 G1 hgr1 hR1 hsz1 Bz1 hRl1
  go_upto_if 18 with fail
  go_cut [7] from 17 to 18 (fun nv wc => wc = w2 ∧ ∃ m : Nat, nv = .int .i64 m ∧ m ≤ 60)
  case first =>
    obtain ⟨m, rfl⟩ := Int.eq_ofNat_of_zero_le p1_0
    go_wp2
    all_goals go_meet
    · exact ⟨rfl, 60, rfl, by omega⟩
    · exact ⟨rfl, m, rfl, by omega⟩
  case rest =>
    obtain ⟨hwc, m, rfl, hm⟩ := hcut
    rw [hwc]
    obtain ⟨⟨l0, l1, l2, l3, l4, l5, l6, l7, l8, l9, l10⟩, lf⟩ := L2.c11
    go_wp2_with fail
    refine (l13Start_any l _ _ _ _ _).mono ?_
    rintro e w3 ⟨rfl, hb3⟩
    have hs3 := hb3.size
    obtain ⟨S, hS⟩ : ∃ S, w3.heap.size = S := ⟨_, rfl⟩
    have S3 : RunS l A A' c c' R (n + 2) w.heap.size (w.heap.size + 1 + 1) S ⟨0, 0, false⟩ (st0 l) w (w3.alloc (.cells #[.int .i64 (st0 l).t, .int .i64 (st0 l).p.x, .int .i64 (st0 l).p.y, .int .i64 (st0 l).f.x, .int .i64 (st0 l).f.y, .int .i64 (st0 l).d, .int .i64 (st0 l).g, .bool (st0 l).dn, .bool (st0 l).ov] 111)) := ⟨(L2.later hb3).alloc _, (B2.later hb3).alloc _, Bk.new _ _ _ hS, (hR2.later hb3).alloc _, gr_alloc (gr_below hgr2 hb3) _, (W2.below hb3).below (below_alloc (Below.refl _ _) _), (G2.below hb3).below (below_alloc (Below.refl _ _) _)⟩
    have O3 := (O2.later hb3).alloc (.cells #[.int .i64 (st0 l).t, .int .i64 (st0 l).p.x, .int .i64 (st0 l).p.y, .int .i64 (st0 l).f.x, .int .i64 (st0 l).f.y, .int .i64 (st0 l).d, .int .i64 (st0 l).g, .bool (st0 l).dn, .bool (st0 l).ov] 111)
    clear L2 B2 O2 W2 G2 hgr2 hR2 hb3 l0 l1 l2 l3 l4 l5 l6 l7 l8 l9 l10 lf
    have HS := Lib.hid hS
    have hIS : w.heap.size + 1 + 1 < S := by omega
    have hzS : (w3.alloc (.cells #[.int .i64 (st0 l).t, .int .i64 (st0 l).p.x, .int .i64 (st0 l).p.y, .int .i64 (st0 l).f.x, .int .i64 (st0 l).f.y, .int .i64 (st0 l).d, .int .i64 (st0 l).g, .bool (st0 l).dn, .bool (st0 l).ov] 111)).heap.size = S + 1 := by simp [hS]
    go_wp2
    go_loopg [5, 9] m (fun q v i wr => ∃ (k : Nat) (out : List Inp) (b : Inp), q = m - k ∧ k ≤ m ∧ i = .int .i64 k ∧ out.length = k ∧ legal l out < 0 ∧ b.s = steerOf out ∧ Own wr (w.heap.size + 1) 60 3 encInp v out ∧ (∀ g, v.ownBlock = some g → g ≠ w.heap.size + 1 + 1 ∧ g ≠ S) ∧ RunS l A A' c c' R (n + 2 + 3 * k) w.heap.size (w.heap.size + 1 + 1) S b (runTo l out k) w wr ∧ S < wr.heap.size)
    case atStart => exact ⟨0, [], ⟨0, 0, false⟩, rfl, Nat.zero_le _, rfl, rfl, by simp [legal], rfl, O3, fun g e => by simp only [Value.ownBlock, Option.some.injEq] at e; omega, S3, by omega⟩
    case round =>
      obtain ⟨k, out, b, hq, hk, rfl, hlen, hleg, hbs, hO, hOne, hS, hSz⟩ := hrel
      clear S3 O3 hzS
      obtain ⟨Av, cv, rfl, hcv, _⟩ := hO.form
      obtain ⟨⟨l0, l1, l2, l3, l4, l5, l6, l7, l8, l9, l10⟩, lf⟩ := hS.L.c11
      have zL := hS.L.lt; have zB := hS.B.lt; have zR := hS.r.lt
      have hol : out.length ≤ 60 := by omega
      have Hq := Lib.hid hq; have Hlen := Lib.hid hlen; have Hleg := Lib.hid hleg; have Hbs := Lib.hid hbs
      have hsb := steer_legal hleg
      rw [← hbs] at hsb
      clear hq hlen hleg hbs
      by_cases hlt : k < m
      · by_cases hlt2 : (k : Int) < l.ticks
        · obtain ⟨⟨b0, b1, b2⟩, bf⟩ := hS.B.c3
          go_wp2_with fail
          refine (l92Next_any l b _ _ _ _ R (n + 2 + 3 * k) _ hS.r (by omega) g0 g1 hsb).mono ?_
          rintro e w5 ⟨x, rfl, hx, hR5, hg5⟩
          have S5 := hS.rd hg5 hR5 (by omega) (by omega) (by omega) (fun a e => (hA a e).1) (fun a e => (hA' a e).1)
          have O5 := hO.gk hg5 (by omega)
          have hz5 := hg5.size
          have Hx := Lib.hid hx
          clear hS hO hg5 hR5 b0 b1 b2 bf l0 l1 l2 l3 l4 l5 l6 l7 l8 l9 l10 lf hx
          obtain ⟨xs, xp, xz⟩ := x
          obtain ⟨X, hX⟩ : ∃ X, w5.heap.size = X := ⟨_, rfl⟩
          have HX := Lib.hid hX
          have hSX : S < X := by omega
          have hOX : ∀ g, (Value.slice Av out.length cv).ownBlock = some g → g < X := fun g e => by have := (O5.lt g e).2; omega
          have hnc := O5.none_cap
          go_upto_region 11 with fail
          go_cut [11] from 21 to 66 (fun nv wc => ∃ (A1 : Option Addr) (c1 : Nat) (nx : List Inp), nx = out ++ [⟨xs, xp, xz⟩] ∧ nv = .slice A1 nx.length c1 ∧ Own wc (X + 1) 60 3 encInp (.slice A1 nx.length c1) nx ∧ RunS l A A' c c' R (n + 2 + 3 * k + 3) w.heap.size (w.heap.size + 1 + 1) S b (runTo l out k) w wc ∧ Own wc (w.heap.size + 1) 60 3 encInp (.slice Av out.length cv) out ∧ Bk wc X 60 #[.int .i64 xs, .int .i64 xp, .bool xz] ∧ X < wc.heap.size)
          case first =>
            refine wp_world (fun u => RunS l A A' c c' R (n + 2 + 3 * k + 3) w.heap.size (w.heap.size + 1 + 1) S b (runTo l out k) w u ∧ Own u (w.heap.size + 1) 60 3 encInp (.slice Av out.length cv) out ∧ Bk u X 60 #[.int .i64 xs, .int .i64 xp, .bool xz] ∧ u.heap.size = X + 1) ⟨S5.alloc _, O5.alloc _, Bk.new _ _ _ hX, by simp [hX]⟩ ?_
            rintro w6 ⟨S6, O6, X6, hz6⟩
            clear S5 O5
            go_region_held3 (fun w' => w'.cell? ⟨X, 0, none⟩ = some (.int .i64 xs) ∧ w'.cell? ⟨X, 1, none⟩ = some (.int .i64 xp) ∧ w'.cell? ⟨X, 2, none⟩ = some (.bool xz))
            (first | (with_reducible exact keepX X6.drew) | (with_reducible exact keepX (X6.alloc _).drew) | (with_reducible exact keepX ((X6.alloc _).alloc _).drew) | (with_reducible exact keepX X8) | (with_reducible exact keepX (X8.alloc _)) | (with_reducible exact keepX X9))
            (first
            | (refine step_appL rfl (.tmp 36) (.tmp 37) _ rfl (X + 1) 60 i0 (.agg #[.int .i64 0, .int .i64 0, .bool false]) 3 24 Try.underlying33 hi hz0 hz1 hz2 rfl (by decide) encInp_len one_inp _ [] out (by first | (simp [Act.eval]; done) | (simp [Act.eval]; rfl)) (by first | exact (own_nil_inp _ _ _ _ (by first | omega | (simp; done) | (simp; omega)) (by first | omega | (simp; done) | (simp; omega))).drew | exact ((own_nil_inp _ _ _ _ (by first | omega | (simp; done) | (simp; omega)) (by first | omega | (simp; done) | (simp; omega))).alloc _).drew) Av out.length cv (by first | (simp [Act.eval]; done) | (simp [Act.eval]; rfl)) (by first | exact ((O6.sl' encInp_len).below (below_alloc (Below.refl _ _) _)).drew | exact (((O6.sl' encInp_len).below (below_alloc (Below.refl _ _) _)).below (below_alloc (Below.refl _ _) _)).drew) hnc (by have e0 : ([] : List Inp).length = 0 := rfl; unfold maxLen; omega) (by have e0 : ([] : List Inp).length = 0 := rfl; omega) (by first | omega | (simp; done) | (simp; omega)) ?_; intro v8 w8 O8 hg8 hl8; rw [List.nil_append] at O8; obtain ⟨A8, c8, rfl, hc8, _⟩ := O8.form; have hz8 : X + 1 ≤ w8.heap.size := (by have := hg8.size; simp at this; omega); have X8 : Bk w8 X 60 #[.int .i64 xs, .int .i64 xp, .bool xz] := (by first | exact (X6.alloc _).drew.grown hg8 (by simp only [Value.ownBlock]; intro e; injection e with e; omega) | exact ((X6.alloc _).alloc _).drew.grown hg8 (by simp only [Value.ownBlock]; intro e; injection e with e; omega)); have S8 : RunS l A A' c c' R (n + 2 + 3 * k + 3) w.heap.size (w.heap.size + 1 + 1) S b (runTo l out k) w w8 := (by first | exact (S6.alloc _).drew.own hg8 (fun g e => by simp only [Value.ownBlock, Option.some.injEq] at e; omega) (by omega) (by omega) (by omega) (by omega) (fun a e => by have := (hA a e).2; omega) (fun a e => by have := (hA' a e).2; omega) | exact ((S6.alloc _).alloc _).drew.own hg8 (fun g e => by simp only [Value.ownBlock, Option.some.injEq] at e; omega) (by omega) (by omega) (by omega) (by omega) (fun a e => by have := (hA a e).2; omega) (fun a e => by have := (hA' a e).2; omega)); have P8 : Own w8 (w.heap.size + 1) 60 3 encInp (.slice Av out.length cv) out := (by first | exact (O6.alloc _).drew.keptN hg8 (fun g e e2 => by simp only [Value.ownBlock, Option.some.injEq] at e2; have := hOX g e; omega) | exact ((O6.alloc _).alloc _).drew.keptN hg8 (fun g e e2 => by simp only [Value.ownBlock, Option.some.injEq] at e2; have := hOX g e; omega)))
            | (refine step_appL rfl (.tmp 38) (.tmp 40) _ rfl (X + 1) 60 i0 (.agg #[.int .i64 0, .int .i64 0, .bool false]) 3 24 Try.underlying33 hi hz0 hz1 hz2 rfl (by decide) encInp_len one_inp _ out [⟨xs, xp, xz⟩] (by first | (simp [Act.eval]; done) | (simp [Act.eval]; rfl)) (by first | exact O8 | exact O8.alloc _) _ 1 1 (by first | (simp [Act.eval]; done) | (simp [Act.eval]; rfl)) (by first | exact Sl.one_at _ _ _ _ (by rfl) (by first | rfl | omega | (simp; done) | (simp; omega)) | (refine Sl.grown (Sl.drew (by exact Sl.one_at _ _ _ _ (by rfl) (by first | rfl | omega | (simp; done) | (simp; omega)))) hg8 ?_; (intro a e e2; cases e; exact absurd (Option.some.inj e2) (by first | (simp; done) | (simp; omega) | omega))) | (refine Sl.grown (Sl.drew (Sl.below (by exact Sl.one_at _ _ _ _ (by rfl) (by first | rfl | omega | (simp; done) | (simp; omega))) (below_alloc (Below.refl _ _) _))) hg8 ?_; (intro a e e2; cases e; exact absurd (Option.some.inj e2) (by first | (simp; done) | (simp; omega) | omega)))) (by intro e; cases e) (by unfold maxLen; omega) (by omega) (by first | omega | (simp; done) | (simp; omega)) ?_; intro v9 w9 O9 hg9 hl9; obtain ⟨A9, c9, hv9, hc9, _⟩ := O9.form; rw [List.length_append, List.length_singleton] at hv9; subst hv9; have X9 : Bk w9 X 60 #[.int .i64 xs, .int .i64 xp, .bool xz] := (by first | exact X8.grown hg9 (by intro e; have := (O8.lt _ e.symm).1; omega) | exact (X8.alloc _).grown hg9 (by intro e; have := (O8.lt _ e.symm).1; omega))))
            all_goals
              have S9 : RunS l A A' c c' R (n + 2 + 3 * k + 3) w.heap.size (w.heap.size + 1 + 1) S b (runTo l out k) w w9 := (by first | exact S8.own hg9 (fun g e => by have := (O8.lt g e).1; omega) (by omega) (by omega) (by omega) (by omega) (fun a e => by have := (hA a e).2; omega) (fun a e => by have := (hA' a e).2; omega) | exact (S8.alloc _).own hg9 (fun g e => by have := (O8.lt g e).1; omega) (by omega) (by omega) (by omega) (by omega) (fun a e => by have := (hA a e).2; omega) (fun a e => by have := (hA' a e).2; omega))
              have P9 : Own w9 (w.heap.size + 1) 60 3 encInp (.slice Av out.length cv) out := (by first | exact P8.keptN hg9 (fun g e e2 => by have := (O8.lt g e2).1; have := hOX g e; omega) | exact (P8.alloc _).keptN hg9 (fun g e e2 => by have := (O8.lt g e2).1; have := hOX g e; omega))
              have Q9 : Own w9 (X + 1) 60 3 encInp (.slice A9 (out ++ [(⟨xs, xp, xz⟩ : Inp)]).length c9) (out ++ [(⟨xs, xp, xz⟩ : Inp)]) := by rw [List.length_append]; exact O9
              clear S8 P8 O8 X8 hg8 hl8 hl9 hg9 S6 O6 X6
              go_wp2_with fail
              go_meet
              exact ⟨A9, c9, _, rfl, by rw [List.length_append]; rfl, Q9, S9, P9, X9, X9.lt⟩
          case rest =>
            obtain ⟨A1, c1, nx, hnx, rfl, O9, S9, P9, X9, hzX⟩ := hcut
            have hnl : nx.length ≤ 61 := by rw [hnx, List.length_append]; simp; omega
            have Hnx := Lib.hid hnx; clear hnx S5 O5 hX hz5
            obtain ⟨⟨l0, l1, l2, l3, l4, l5, l6, l7, l8, l9, l10⟩, lf⟩ := S9.L.c11; obtain ⟨⟨x0, x1, x2⟩, xf⟩ := X9.c3
            have zL9 := S9.L.lt; have zX9 := X9.lt
            go_wp2_with fail
            refine (l12Legal_any l nx _ _ _ _ _ _ _ (O9.sl' encInp_len) (by omega) g0 g1).mono ?_
            rintro e w10 ⟨rfl, hb10⟩
            have S10 := S9.below hb10; have O10 := O9.later hb10; have P10 := P9.later hb10; have X10 := X9.later hb10; have hz10 := hb10.size
            clear S9 O9 P9 X9 hb10 l0 l1 l2 l3 l4 l5 l6 l7 l8 l9 l10 lf x0 x1 x2 xf zL9 zX9
            obtain ⟨⟨x0, x1, x2⟩, xf⟩ := X10.c3
            have zX10 := X10.lt
            go_upto_if 45 with fail
            go_cut [11] from 21 to 66 (fun nv wc => ∃ (ys yp : Int) (yz : Bool), inpOk ⟨ys, yp, yz⟩ = true ∧ ∃ (A1 : Option Addr) (c1 : Nat) (nx : List Inp), nx = out ++ [⟨ys, yp, yz⟩] ∧ nv = .slice A1 nx.length c1 ∧ Own wc (X + 1) 60 3 encInp (.slice A1 nx.length c1) nx ∧ RunS l A A' c c' R (n + 2 + 3 * k + 3) w.heap.size (w.heap.size + 1 + 1) S b (runTo l out k) w wc ∧ Own wc (w.heap.size + 1) 60 3 encInp (.slice Av out.length cv) out ∧ Bk wc X 60 #[.int .i64 ys, .int .i64 yp, .bool yz] ∧ X < wc.heap.size)
            case first =>
              by_cases hlg : legal l nx < 0
              · have hlg2 : ¬ (0 ≤ legal l nx) := by omega
                go_wp2_with fail
                go_meet
                exact ⟨xs, xp, xz, Hx.out, A1, c1, nx, Hnx.out, rfl, O10, S10, P10, X10, X10.lt⟩
              · have hlg2 : 0 ≤ legal l nx := by omega
                go_upto_region 14 with fail
                obtain ⟨H, hH⟩ : ∃ H, w10.heap.size = H := ⟨_, rfl⟩
                have hXH : X < H := by omega
                have hOXn := fun g e => Nat.ne_of_lt (hOX g e)
                refine wp_world (fun u => RunS l A A' c c' R (n + 2 + 3 * k + 3) w.heap.size (w.heap.size + 1 + 1) S b (runTo l out k) w u ∧ Own u (w.heap.size + 1) 60 3 encInp (.slice Av out.length cv) out ∧ Bk u X 60 #[.int .i64 0, .int .i64 0, .bool false] ∧ u.heap.size = H) ⟨(((S10.farX hSX (by omega) (by omega) (by omega) (by omega) (fun a e => by have := (hA a e).2; omega) (fun a e => by have := (hA' a e).2; omega) _).farX hSX (by omega) (by omega) (by omega) (by omega) (fun a e => by have := (hA a e).2; omega) (fun a e => by have := (hA' a e).2; omega) _).farX hSX (by omega) (by omega) (by omega) (by omega) (fun a e => by have := (hA a e).2; omega) (fun a e => by have := (hA' a e).2; omega) _), (((P10.fars hOXn _).fars hOXn _).fars hOXn _), (by (repeat (first | (with_reducible assumption) | (with_reducible exact Bk.new _ _ _ (by simp; done)) | (with_reducible refine Bk.alloc ?_ _) | (with_reducible refine Bk.drew ?_) | (with_reducible refine Bk.drewN ?_ _) | (with_reducible apply Bk.set') | (with_reducible refine Bk.far ?_ (by first | omega | (simp; done) | (simp; omega)) _) | (with_reducible refine Bk.later ?_ (by assumption)) | (with_reducible refine Bk.grown ?_ (by assumption) (by first | omega | (simp; done) | (simp; omega))) | (exact SetTo.mk (by with_reducible rfl)) | (exact SetTo.mk (by simp))))), by simp [hH]⟩ ?_
                rintro w6 ⟨S6, O6, X6, hz6⟩
                clear S10 O10 P10 X10 hz10 zX10 x0 x1 x2 xf hH hzX
                go_region_held3 (fun w' => w'.cell? ⟨X, 0, none⟩ = some (.int .i64 0) ∧ w'.cell? ⟨X, 1, none⟩ = some (.int .i64 0) ∧ w'.cell? ⟨X, 2, none⟩ = some (.bool false))
            (first | (with_reducible exact keepX X6.drew) | (with_reducible exact keepX (X6.alloc _).drew) | (with_reducible exact keepX ((X6.alloc _).alloc _).drew) | (with_reducible exact keepX X8) | (with_reducible exact keepX (X8.alloc _)) | (with_reducible exact keepX X9))
            (first
            | (refine step_appL rfl (.tmp 47) (.tmp 48) _ rfl (X + 1) 60 i0 (.agg #[.int .i64 0, .int .i64 0, .bool false]) 3 24 Try.underlying33 hi hz0 hz1 hz2 rfl (by decide) encInp_len one_inp _ [] out (by first | (simp [Act.eval]; done) | (simp [Act.eval]; rfl)) (by first | exact (own_nil_inp _ _ _ _ (by first | omega | (simp; done) | (simp; omega)) (by first | omega | (simp; done) | (simp; omega))).drew | exact ((own_nil_inp _ _ _ _ (by first | omega | (simp; done) | (simp; omega)) (by first | omega | (simp; done) | (simp; omega))).alloc _).drew) Av out.length cv (by first | (simp [Act.eval]; done) | (simp [Act.eval]; rfl)) (by first | exact ((O6.sl' encInp_len).below (below_alloc (Below.refl _ _) _)).drew | exact (((O6.sl' encInp_len).below (below_alloc (Below.refl _ _) _)).below (below_alloc (Below.refl _ _) _)).drew) hnc (by have e0 : ([] : List Inp).length = 0 := rfl; unfold maxLen; omega) (by have e0 : ([] : List Inp).length = 0 := rfl; omega) (by first | omega | (simp; done) | (simp; omega)) ?_; intro v8 w8 O8 hg8 hl8; rw [List.nil_append] at O8; obtain ⟨A8, c8, rfl, hc8, _⟩ := O8.form; have hz8 : X + 1 ≤ w8.heap.size := (by have := hg8.size; simp at this; omega); have X8 : Bk w8 X 60 #[.int .i64 0, .int .i64 0, .bool false] := (by first | exact (X6.alloc _).drew.grown hg8 (by simp only [Value.ownBlock]; intro e; injection e with e; omega) | exact ((X6.alloc _).alloc _).drew.grown hg8 (by simp only [Value.ownBlock]; intro e; injection e with e; omega)); have S8 : RunS l A A' c c' R (n + 2 + 3 * k + 3) w.heap.size (w.heap.size + 1 + 1) S b (runTo l out k) w w8 := (by first | exact (S6.alloc _).drew.own hg8 (fun g e => by simp only [Value.ownBlock, Option.some.injEq] at e; omega) (by omega) (by omega) (by omega) (by omega) (fun a e => by have := (hA a e).2; omega) (fun a e => by have := (hA' a e).2; omega) | exact ((S6.alloc _).alloc _).drew.own hg8 (fun g e => by simp only [Value.ownBlock, Option.some.injEq] at e; omega) (by omega) (by omega) (by omega) (by omega) (fun a e => by have := (hA a e).2; omega) (fun a e => by have := (hA' a e).2; omega)); have P8 : Own w8 (w.heap.size + 1) 60 3 encInp (.slice Av out.length cv) out := (by first | exact (O6.alloc _).drew.keptN hg8 (fun g e e2 => by simp only [Value.ownBlock, Option.some.injEq] at e2; have := hOX g e; omega) | exact ((O6.alloc _).alloc _).drew.keptN hg8 (fun g e e2 => by simp only [Value.ownBlock, Option.some.injEq] at e2; have := hOX g e; omega)))
            | (refine step_appL rfl (.tmp 49) (.tmp 51) _ rfl (X + 1) 60 i0 (.agg #[.int .i64 0, .int .i64 0, .bool false]) 3 24 Try.underlying33 hi hz0 hz1 hz2 rfl (by decide) encInp_len one_inp _ out [⟨0, 0, false⟩] (by first | (simp [Act.eval]; done) | (simp [Act.eval]; rfl)) (by first | exact O8 | exact O8.alloc _) _ 1 1 (by first | (simp [Act.eval]; done) | (simp [Act.eval]; rfl)) (by first | exact Sl.one_at _ _ _ _ (by rfl) (by first | rfl | omega | (simp; done) | (simp; omega)) | (refine Sl.grown (Sl.drew (by exact Sl.one_at _ _ _ _ (by rfl) (by first | rfl | omega | (simp; done) | (simp; omega)))) hg8 ?_; (intro a e e2; cases e; exact absurd (Option.some.inj e2) (by first | (simp; done) | (simp; omega) | omega))) | (refine Sl.grown (Sl.drew (Sl.below (by exact Sl.one_at _ _ _ _ (by rfl) (by first | rfl | omega | (simp; done) | (simp; omega))) (below_alloc (Below.refl _ _) _))) hg8 ?_; (intro a e e2; cases e; exact absurd (Option.some.inj e2) (by first | (simp; done) | (simp; omega) | omega)))) (by intro e; cases e) (by unfold maxLen; omega) (by omega) (by first | omega | (simp; done) | (simp; omega)) ?_; intro v9 w9 O9 hg9 hl9; obtain ⟨A9, c9, hv9, hc9, _⟩ := O9.form; rw [List.length_append, List.length_singleton] at hv9; subst hv9; have X9 : Bk w9 X 60 #[.int .i64 0, .int .i64 0, .bool false] := (by first | exact X8.grown hg9 (by intro e; have := (O8.lt _ e.symm).1; omega) | exact (X8.alloc _).grown hg9 (by intro e; have := (O8.lt _ e.symm).1; omega))))
                all_goals
                  have S9 : RunS l A A' c c' R (n + 2 + 3 * k + 3) w.heap.size (w.heap.size + 1 + 1) S b (runTo l out k) w w9 := (by first | exact S8.own hg9 (fun g e => by have := (O8.lt g e).1; omega) (by omega) (by omega) (by omega) (by omega) (fun a e => by have := (hA a e).2; omega) (fun a e => by have := (hA' a e).2; omega) | exact (S8.alloc _).own hg9 (fun g e => by have := (O8.lt g e).1; omega) (by omega) (by omega) (by omega) (by omega) (fun a e => by have := (hA a e).2; omega) (fun a e => by have := (hA' a e).2; omega))
                  have P9 : Own w9 (w.heap.size + 1) 60 3 encInp (.slice Av out.length cv) out := (by first | exact P8.keptN hg9 (fun g e e2 => by have := (O8.lt g e2).1; have := hOX g e; omega) | exact (P8.alloc _).keptN hg9 (fun g e e2 => by have := (O8.lt g e2).1; have := hOX g e; omega))
                  have Q9 : Own w9 (X + 1) 60 3 encInp (.slice A9 (out ++ [(⟨0, 0, false⟩ : Inp)]).length c9) (out ++ [(⟨0, 0, false⟩ : Inp)]) := by rw [List.length_append]; exact O9
                  clear S8 P8 O8 X8 hg8 hl8 hl9 hg9 S6 O6 X6
                  go_wp2_with fail
                  go_meet
                  exact ⟨0, 0, false, rfl, A9, c9, _, rfl, by rw [List.length_append]; rfl, Q9, S9, P9, X9, X9.lt⟩
            case rest =>
              obtain ⟨ys, yp, yz, hy, A2, c2, ny, hny, rfl, O11, S11, P11, X11, hzX2⟩ := hcut
              have hnl2 : ny.length = k + 1 := by rw [hny, List.length_append, Hlen.out]; rfl
              have Hny := Lib.hid hny; have Hnl2 := Lib.hid hnl2; have hnb2 : ny.length ≤ 61 := by omega
              have Hy := Lib.hid hy
              have hys := inpOk_s hy
              clear hny hnl2 hy S10 O10 P10 X10 hz10 zX10 x0 x1 x2 xf
              obtain ⟨⟨l0, l1, l2, l3, l4, l5, l6, l7, l8, l9, l10⟩, lf⟩ := S11.L.c11
              have zL11 := S11.L.lt
              go_wp2_with fail
              refine (l12Legal_any l ny _ _ _ _ _ _ _ (O11.sl' encInp_len) (by omega) g0 g1).mono ?_
              rintro e w12 ⟨rfl, hb12⟩
              have S12 := S11.below hb12; have O12 := O11.later hb12; have P12 := P11.later hb12; have X12 := X11.later hb12; have hz12 := hb12.size
              clear S11 O11 P11 X11 hb12 l0 l1 l2 l3 l4 l5 l6 l7 l8 l9 l10 lf zL11
              by_cases hlg : legal l ny < 0
              · have hlg2 : ¬ (0 ≤ legal l ny) := by omega
                have hO2 : ∀ g, (Value.slice A2 ny.length c2).ownBlock = some g → X + 1 ≤ g := fun g e => (O12.lt g e).1
                have hO2I : ∀ g, (Value.slice A2 ny.length c2).ownBlock = some g → g ≠ w.heap.size + 1 + 1 := fun g e => by have := hO2 g e; omega
                have hO2S : ∀ g, (Value.slice A2 ny.length c2).ownBlock = some g → g ≠ S := fun g e => by have := hO2 g e; omega
                have SB := S12.setB ⟨ys, yp, yz⟩ (by omega) (by omega) (by omega) (by omega) (fun a e => by have := (hA a e).2; omega) (fun a e => by have := (hA' a e).2; omega)
                have OB := ((O12.fars (p := ⟨w.heap.size + 1 + 1, 0, none⟩) hO2I (.int .i64 ys)).fars (p := ⟨w.heap.size + 1 + 1, 1, none⟩) hO2I (.int .i64 yp)).fars (p := ⟨w.heap.size + 1 + 1, 2, none⟩) hO2I (.bool yz)
                have hst := runTo_ok out k hl.G.st
                have htt := runTo_t l out k (by rw [Hlen.out]; exact Nat.le_refl _)
                have htb : 0 ≤ (runTo l out k).t ∧ (runTo l out k).t ≤ 1000000 := by omega
                obtain ⟨ht0, ht1⟩ := htb
                clear htt
                obtain ⟨⟨l0, l1, l2, l3, l4, l5, l6, l7, l8, l9, l10⟩, lf⟩ := S12.L.c11; obtain ⟨⟨b0, b1, b2⟩, bf⟩ := S12.B.c3; obtain ⟨⟨t0, t1, t2, t3, t4, t5, t6, t7, t8⟩, tf⟩ := S12.T.c9; obtain ⟨⟨x0, x1, x2⟩, xf⟩ := X12.c3
                have zL := S12.L.lt; have zB := S12.B.lt; have zT := S12.T.lt; have zX := X12.lt
                go_wp2_with fail
                refine (l13Step_any l (runTo l out k) ⟨ys, yp, yz⟩ _ _ _ _ _ SB.hW SB.hG (by have := hl.nw; omega) hl.G.w hst (by have := hl.ng; omega) ht0 ht1 hys).mono ?_
                have Hs2 : Hid (stepS l (runTo l out k) ⟨ys, yp, yz⟩ = runTo l ny (k + 1)) := Lib.hid (by have e := runTo_snoc l out ⟨ys, yp, yz⟩; rw [← Hny.out, Hnl2.out, Hlen.out] at e; exact e.symm)
                generalize stepS l (runTo l out k) ⟨ys, yp, yz⟩ = s2 at *
                rintro e w13 ⟨rfl, hb13⟩
                have S13 := SB.below hb13; have O13 := OB.later hb13
                clear S12 O12 P12 X12 SB OB hb13 l0 l1 l2 l3 l4 l5 l6 l7 l8 l9 l10 lf b0 b1 b2 bf t0 t1 t2 t3 t4 t5 t6 t7 t8 tf x0 x1 x2 xf zL zB zT zX hst ht0 ht1
                have ST := S13.setT s2 (by omega) (by omega) (by omega) (by omega) (fun a e => by have := (hA a e).2; omega) (fun a e => by have := (hA' a e).2; omega)
                have OT := (((((((((O13.fars (p := ⟨S, 0, none⟩) hO2S (.int .i64 s2.t)).fars (p := ⟨S, 1, none⟩) hO2S (.int .i64 s2.p.x)).fars (p := ⟨S, 2, none⟩) hO2S (.int .i64 s2.p.y)).fars (p := ⟨S, 3, none⟩) hO2S (.int .i64 s2.f.x)).fars (p := ⟨S, 4, none⟩) hO2S (.int .i64 s2.f.y)).fars (p := ⟨S, 5, none⟩) hO2S (.int .i64 s2.d)).fars (p := ⟨S, 6, none⟩) hO2S (.int .i64 s2.g)).fars (p := ⟨S, 7, none⟩) hO2S (.bool s2.dn)).fars (p := ⟨S, 8, none⟩) hO2S (.bool s2.ov))
                obtain ⟨⟨t0, t1, t2, t3, t4, t5, t6, t7, t8⟩, tf⟩ := S13.T.c9
                have zT := S13.T.lt
                have hz13 : S < w13.heap.size := zT
                cases hdn : s2.dn
                · simp only [hdn] at ST OT
                  go_wp2
                  go_roundg (m - (k + 1))
                  case measure => have := Hq.out; omega
                  case rel =>
                    refine ⟨k + 1, ny, ⟨ys, yp, yz⟩, rfl, by omega, by go_num, Hnl2.out, hlg, by rw [Hny.out, steerOf_snoc], OT.mono (by omega), (fun g e => ⟨hO2I g e, hO2S g e⟩), ?_, by simp; omega⟩
                    rw [← Hs2.out]
                    exact ST.more (by omega)
                · simp only [hdn] at ST OT
                  go_wp2
                  exact bodyPost_ret (v := .slice A2 ny.length c2) (by simp [results, Try.results79, go_sem]) rfl ⟨ny, A2, c2, rfl, hlg, OT.mono (by omega), ST.r.more (by omega), ST.g⟩
              · have hlg2 : 0 ≤ legal l ny := by omega
                go_wp2
                exact bodyPost_ret (v := .slice Av out.length cv) (by simp [results, Try.results79, go_sem]) rfl ⟨out, Av, cv, rfl, Hleg.out, P12.mono (by omega), S12.r.more (by omega), S12.g⟩
        · go_wp2
          exact bodyPost_ret (v := .slice Av out.length cv) (by simp [results, Try.results79, go_sem]) rfl ⟨out, Av, cv, rfl, Hleg.out, hO.mono (by omega), hS.r.more (by omega), hS.g⟩
      · go_wp2
        exact bodyPost_ret (v := .slice Av out.length cv) (by simp [results, Try.results79, go_sem]) rfl ⟨out, Av, cv, rfl, Hleg.out, hO.mono (by omega), hS.r.more (by omega), hS.g⟩
end Go.Proofs.Ytkendoffknjpiaa
