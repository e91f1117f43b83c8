/- Lemmas: RFun ImpA ImpB. -/
import Derived.Test.YtdpoicfciogfnaaDoorZBase
import Derived.RangeFuncNested
import Derived.RangeFuncBound
import Derived.RangeFuncCalls
import Derived.RangeFuncLeaves
import Derived.Shelf.Abstract
import Derived.Shelf.RegionOpen
import Derived.OwnWalkIn
import Derived.TacticsInMore
import Derived.LoopNIn
import Derived.LoopIn
import Derived.Test.YtdpoicfciogfnaaDoorZHead
import Derived.Deep.DeepMust
/- A range over a function whose iterator keeps cells of its own: the law of such a loop. No program is named here. -/
namespace Go.Proofs.YtdpoicfciogfnaaDoor
open Go.RowKit Go.Shelf
/-- The iterator's contract: at most N rounds, the k-th with enc k. Ab: what the iterator may do between two rounds; Kp: what a round keeps for it. -/
def SeqN (P : Program) (gf : Nat) (lb : Array Value) (enc : Nat → Array Value) (N : Nat) (Kp Ab : Nat → World → World → Prop) (w0 : World) : Prop :=
  ∀ (l : Nat) (J Jx : Nat → World → Prop) (W : World), Below w0.heap.size w0 W → (∀ k A A', J k A → Ab W.heap.size A A' → J k A') →
    (∀ k W1, k < N → J k W1 → YieldAt Fence.wide 1 P l (enc k) W1 fun e W' => (e = .returned (.bool true) ∧ J (k + 1) W' ∧ Kp W.heap.size W1 W') ∨ (e = .returned (.bool false) ∧ Jx k W')) →
    J 0 W → CallsIn Fence.wide 2 P gf (#[.func (.yield l) #[] #[]] ++ lb) W fun e W' => (∃ v, e = .returned v) ∧ (J N W' ∨ ∃ k, k < N ∧ Jx k W')
/-- How a round may be left: it goes on, or it returns. -/
def roundN (B : Nat) (Kp : Nat → World → World → Prop) (I Ix : Nat → World → Prop) (k : Nat) (W : World) : Exit → Act → World → Prop
  | .normal, _, W' => KeepsFrom B W W' ∧ Kp (B + 2) W W' ∧ I (k + 1) W'
  | .ret, _, W' => KeepsFrom B W W' ∧ Ix k W'
  | _, _, _ => False
theorem below_putObj {B : Nat} {W : World} {l : Nat} (hl : B ≤ l) (o : Obj) : Below B W (W.putObj l o) := ⟨rfl, rfl, rfl, by simp, fun k hk => World.putObj_heap_other (by omega)⟩
theorem wp_rfun {P : Program} {g : Operand} {ps : Array Tmp} {assign body : Code} {Q : Exit → Act → World → Prop} {a : Act} {w : World}
    {gf : Nat} {lb : Array Value} (hg : a.eval g = .func (.func gf) #[] lb) (eg : ∀ args w, (callFunc gf args).run P w = .ok (.enter gf args) w)
    {enc : Nat → Array Value} {N : Nat} {Kp Ab : Nat → World → World → Prop} (hseq : SeqN P gf lb enc N Kp Ab w) (hAb : ∀ B A A', B ≤ A.heap.size → Ab B A A' → Below B A A')
    (hKt : ∀ B A C D, Kp B A C → Kp B C D → Kp B A D) (hKb : ∀ A o, Kp (w.heap.size + 2) A (A.putObj (w.heap.size + 1) o)) (hps : ∀ k, (enc k).size = ps.size)
    (I Ix : Nat → World → Prop) (hI : ∀ k A A', I k A → Ab (w.heap.size + 2) A A' → I k A') (hIo : ∀ k A b o, w.heap.size ≤ b → b < w.heap.size + 2 → I k A → I k (A.putObj b o)) (hIa : ∀ A o, I 0 A → I 0 (A.alloc o))
    (hIxo : ∀ k A b o, w.heap.size ≤ b → b < w.heap.size + 2 → Ix k A → Ix k (A.putObj b o)) (h0 : I 0 w) (Ax : Nat → Act → World → Prop) (hAxo : ∀ k a' A b o, w.heap.size ≤ b → b < w.heap.size + 2 → Ax k a' A → Ax k a' (A.putObj b o))
    (hassign : ∀ (l k : Nat) (W : World) (K : Act → World → Prop), w.heap.size + 2 ≤ W.heap.size → I k W → (∀ a' W', KeepsFrom w.heap.size W W' → Kp (w.heap.size + 2) W W' → I k W' → Ax k a' W' → K a' W') →
      assign.wpIn (Fence.wide.inRound l) 1 P (Exit.then K (fun _ _ _ => False)) { tmps := (ps.zip (enc k)).foldl (fun t (p, v) => t.setIfInBounds p v) a.tmps, defers := [] } W)
    (hbody : ∀ (l k : Nat) (a' : Act) (W : World), w.heap.size + 2 ≤ W.heap.size → I k W → Ax k a' W → k < N → body.wpIn (Fence.wide.inRound l) 1 P (roundN w.heap.size Kp I Ix k W) a' W)
    (hdone : ∀ W : World, w.heap.size + 2 ≤ W.heap.size → I N W → W.heap[w.heap.size]? = some (.deferred (some [])) → Q .normal { a with defers := { target := .collected w.heap.size, args := #[] } :: a.defers } W)
    (hstop : ∀ (k : Nat) (W : World), w.heap.size + 2 ≤ W.heap.size → k < N → Ix k W → W.heap[w.heap.size]? = some (.deferred (some [])) → Code.ret.wpIn Fence.wide 3 P Q { a with defers := { target := .collected w.heap.size, args := #[] } :: a.defers } W) :
    (Code.rangeFunc g ps assign body).wpIn Fence.wide 3 P Q a w := by
  refine wpIn_rangeFunc ?_
  intro fn hfn
  obtain ⟨rec, hrec⟩ : ∃ rec : LoopState → Option Code → Loop, rec = fun st pe => { state := st, pending := pe, fn, tmps := a.tmps, params := ps, assign, body, defers := w.heap.size } := ⟨_, rfl⟩
  obtain ⟨W1, hW1⟩ : ∃ W1, (w.alloc (.deferred (some []))).alloc (.loop (rec .ready none)) = W1 := ⟨_, rfl⟩
  have hL1 : W1.heap[w.heap.size + 1]? = some (.loop (rec .ready none)) := by
    rw [← hW1]; have := World.alloc_heap_new (w.alloc (.deferred (some []))) (.loop (rec .ready none)); rwa [World.size_alloc] at this
  have hK1 : W1.heap[w.heap.size]? = some (.deferred (some [])) := by
    rw [← hW1]; exact (Below.heap_alloc _ _ _ (by simp)).trans (World.alloc_heap_new w _)
  have hI1 : I 0 W1 := by rw [← hW1]; exact hIa _ _ (hIa _ _ h0)
  have hs1 : W1.heap.size = w.heap.size + 2 := by rw [← hW1]; simp
  have hb1 : Below w.heap.size w W1 := by rw [← hW1]; exact ((Below.refl _ w).alloc (Nat.le_refl _) _).alloc (by simp) _
  refine ⟨w.heap.size + 1, [{ target := .collected w.heap.size, args := #[] }], W1, { target := .fn (.func gf) lb, args := #[.func (.yield (w.heap.size + 1)) #[] #[]] }, W1, gf,
    #[.func (.yield (w.heap.size + 1)) #[] #[]] ++ lb, W1, ?_, ?_, fun _ _ => trivial, ?_, fun h => by simp [Fence.wide] at h, ?_⟩
  · rw [← hW1, hrec]; exact run_enterLoop_outer _ _ _ _ _
  · simp only [resolve, hg]
    simp [go_sem]
  · simp [invoke, go_sem, eg]
  · refine (hseq (w.heap.size + 1)
      (fun k W => I k W ∧ w.heap.size + 2 ≤ W.heap.size ∧ W.heap[w.heap.size + 1]? = some (.loop (rec .ready none)) ∧ W.heap[w.heap.size]? = some (.deferred (some [])))
      (fun k W => Ix k W ∧ w.heap.size + 2 ≤ W.heap.size ∧ W.heap[w.heap.size + 1]? = some (.loop (rec .done (some .ret))) ∧ W.heap[w.heap.size]? = some (.deferred (some [])))
      W1 hb1 ?_ ?_ ⟨hI1, by omega, hL1, hK1⟩).mono ?_
    · rintro k A A' ⟨h1, h2, h3, h4⟩ hab
      rw [hs1] at hab
      have hb := hAb _ _ _ h2 hab
      exact ⟨hI k A A' h1 hab, Nat.le_trans h2 hb.size, (hb.block _ (by omega)).trans h3, (hb.block _ (by omega)).trans h4⟩
    · rintro k W hk ⟨hi, hz, hl, hd⟩
      have hy := run_yield (P := P) (args := enc k) hl (by rw [hrec]; exact hps k)
      rw [hrec] at hy
      refine ⟨fn, _, assign, body, hy, roundIn_of_wpIn hfn (hassign _ k W _ hz hi ?_)⟩
      clear hy
      intro a' Wa hkfa hkpa hia hax
      replace hl := hkfa.same _ _ (by omega) hl rfl
      replace hd := hkfa.same _ _ (Nat.le_refl _) hd rfl
      replace hz := Nat.le_trans hz hkfa.size
      replace hi := hia
      clear hia
      revert hkpa hkfa
      generalize W = Wb
      intro hkfa hkpa
      obtain ⟨W, rfl⟩ : ∃ W, W = Wa := ⟨_, rfl⟩
      refine ⟨_, run_beginRound hl (by rw [hrec]), ?_⟩
      have hl2 : (W.putObj (w.heap.size + 1) (.loop { rec .ready none with state := .busy })).heap[w.heap.size + 1]? = some (.loop { rec .ready none with state := .busy }) := World.putObj_heap_same (by omega)
      have hk2 : (W.putObj (w.heap.size + 1) (.loop { rec .ready none with state := .busy })).heap[w.heap.size]? = some (.deferred (some [])) := (World.putObj_heap_other (by omega)).trans hd
      refine wpIn_mono (hbody _ k _ _ (by simpa using hz) (hIo _ _ _ _ (by omega) (by omega) hi) (hAxo _ _ _ _ _ (by omega) (by omega) hax) hk) ?_
      have fin : ∀ (jump : Option Code) (W3 : World), KeepsFrom w.heap.size (W.putObj (w.heap.size + 1) (.loop { rec .ready none with state := .busy })) W3 →
          (Instr.endRound (w.heap.size + 1) jump).run P W3 = .ok (.bool jump.isNone) (W3.putObj (w.heap.size + 1) (.loop (rec (if jump.isNone then .ready else .done) jump))) ∧
          w.heap.size + 2 ≤ W3.heap.size ∧
          (W3.putObj (w.heap.size + 1) (.loop (rec (if jump.isNone then .ready else .done) jump))).heap[w.heap.size + 1]? = some (.loop (rec (if jump.isNone then .ready else .done) jump)) ∧
          (W3.putObj (w.heap.size + 1) (.loop (rec (if jump.isNone then .ready else .done) jump))).heap[w.heap.size]? = some (.deferred (some [])) := fun jump W3 hk3 => by
        have hl3 := hk3.same _ _ (by omega) hl2 rfl
        have := run_endRound (P := P) jump hl3
        rw [hrec] at this ⊢
        exact ⟨this, Nat.le_trans (by simpa using hz) hk3.size, World.putObj_heap_same (Array.getElem?_eq_some_iff.1 hl3).1, (World.putObj_heap_other (by omega)).trans (hk3.same _ _ (Nat.le_refl _) hk2 rfl)⟩
      rintro e a3 W3 hp
      cases e with
      | normal =>
        obtain ⟨hk3, hkp3, hi3⟩ := hp
        obtain ⟨hr, hz3, hl4, hk4⟩ := fin none W3 hk3
        refine ⟨_, _, hr, .inl ⟨rfl, ⟨hIo _ _ _ _ (by omega) (by omega) hi3, by simpa using hz3, hl4, hk4⟩, ?_⟩⟩
        rw [hs1]
        exact hKt _ _ _ _ hkpa (hKt _ _ _ _ (hKb _ _) (hKt _ _ _ _ hkp3 (hKb _ _)))
      | ret =>
        obtain ⟨hk3, hi3⟩ := hp
        obtain ⟨hr, hz3, hl4, hk4⟩ := fin (some .ret) W3 hk3
        exact ⟨_, _, hr, .inr ⟨rfl, hIxo _ _ _ _ (by omega) (by omega) hi3, by simpa using hz3, hl4, hk4⟩⟩
      | exit id => exact hp.elim
      | goto t => exact hp.elim
      | panic ch => exact hp.elim
      | outgrown => exact hp.elim
    · rintro e W2 ⟨⟨v, rfl⟩, (⟨hi, hz, hl, hk⟩ | ⟨k, hkN, hi, hz, hl, hk⟩)⟩
      · exact ⟨none, _, by have := run_endLoop (P := P) hl (by rw [hrec]; simp); rw [hrec] at this; exact this, hdone _ (by simpa using hz) (hIo _ _ _ _ (by omega) (by omega) hi) ((World.putObj_heap_other (by omega)).trans hk)⟩
      · exact ⟨some .ret, _, by have := run_endLoop (P := P) hl (by rw [hrec]; simp); rw [hrec] at this; exact this, hstop k _ (by simpa using hz) hkN (hIxo _ _ _ _ (by omega) (by omega) hi) ((World.putObj_heap_other (by omega)).trans hk)⟩
end Go.Proofs.YtdpoicfciogfnaaDoor

/- The program's arithmetic: root, coordinates, lengths. (Round B) -/
namespace Go.Proofs.YtdpoicfciogfnaaDoor
open Go.ChangeShapes Go.WideShapes Go.ChangeAt Go.RowKit
theorem mid_in {lo hi : Int} (h : lo + 1 < hi) : lo < (lo + hi) / 2 ∧ (lo + hi) / 2 < hi := by omega
theorem sq31 {m : Int} (h0 : 0 ≤ m) (h1 : m ≤ 2147483648) : 0 ≤ m * m ∧ m * m ≤ 4611686018427387904 :=
  ⟨Int.mul_nonneg h0 h0, sq_le h0 h1⟩
theorem len2_bd {v : V2} (hv : vOk v = true) : 0 ≤ len2 v ∧ len2 v ≤ 4000000000000 := by
  obtain ⟨x0, x1, y0, y1⟩ := vOk_iff.1 hv
  have ha := sq_abs (a := v.x) (c := 1000000) (by omega)
  have hb := sq_abs (a := v.y) (c := 1000000) (by omega)
  have h3 := sq_nn v.x
  have h4 := sq_nn v.y
  unfold len2
  omega
theorem mul_sm {a k : Int} (h0 : -1000000 ≤ a) (h1 : a ≤ 1000000) (k0 : 0 ≤ k) (k1 : k ≤ 2000) : -2000000000 ≤ a * k ∧ a * k ≤ 2000000000 := by
  have e1 := Int.mul_le_mul_of_nonneg_right h1 k0
  have e2 := Int.mul_le_mul_of_nonneg_right h0 k0
  omega
end Go.Proofs.YtdpoicfciogfnaaDoor

/- The program's directions (an iterator that keeps cells of its own), VecAdd, VecClamp. (Round B) -/
namespace Go.Proofs.YtdpoicfciogfnaaDoor
open Go.ChangeShapes Go.WideShapes Go.ChangeAt Go.RowKit Go.Shelf
attribute [local go_sem] Oper.semAt_some
theorem Bk.putObj {w : World} {g b : Nat} {t : TypeId} {cs : Array Value} (h : Bk w g t cs) (hne : g ≠ b) (o : Obj) : Bk (w.putObj b o) g t cs := (World.putObj_heap_other hne).trans h
/-- What a round keeps for an iterator whose own blocks begin at B. -/
def KeepUp (B : Nat) (A A' : World) : Prop := A.heap.size ≤ A'.heap.size ∧ ∀ k, B ≤ k → k < A.heap.size → A'.heap[k]? = A.heap[k]?
theorem KeepUp.refl (B : Nat) (A : World) : KeepUp B A A := ⟨Nat.le_refl _, fun _ _ _ => rfl⟩
theorem KeepUp.trans {B : Nat} {A C D : World} (h : KeepUp B A C) (k : KeepUp B C D) : KeepUp B A D := ⟨Nat.le_trans h.1 k.1, fun i h1 h2 => (k.2 i h1 (Nat.lt_of_lt_of_le h2 h.1)).trans (h.2 i h1 h2)⟩
theorem KeepUp.putObj {B b : Nat} (A : World) (hb : b < B) (o : Obj) : KeepUp B A (A.putObj b o) := ⟨by simp, fun k h1 _ => World.putObj_heap_other (by omega)⟩
theorem KeepUp.setCell {B : Nat} (A : World) {p : Addr} (hb : p.block < B) (v : Value) : KeepUp B A (A.setCell p v) := ⟨by simp, fun k h1 _ => Below.heap_setCell A p v k (by omega)⟩
theorem KeepUp.alloc {B : Nat} (A : World) (o : Obj) : KeepUp B A (A.alloc o) := ⟨by simp, fun k _ h2 => Below.heap_alloc A o k h2⟩
theorem Bk.up {w w' : World} {B g : Nat} {t : TypeId} {cs : Array Value} (h : Bk w g t cs) (hk : KeepUp B w w') (hg : B ≤ g) : Bk w' g t cs := (hk.2 g hg h.lt).trans h
def rot (v : V2) : V2 := ⟨-v.y, v.x⟩
def dirK (k : Nat) : V2 := dirV (k : Int)
theorem dirK_rot : ∀ k, k < 12 → (rot (dirK k)).x = (dirK (k + 4)).x ∧ (rot (dirK k)).y = (dirK (k + 4)).y := by decide
theorem dirK_bd : ∀ k, k < 16 → -1000 ≤ (dirK k).x ∧ (dirK k).x ≤ 1000 ∧ -1000 ≤ (dirK k).y ∧ (dirK k).y ≤ 1000 := by decide
theorem V2.ext' {u v : V2} (h : u.x = v.x ∧ u.y = v.y) : u = v := by
  obtain ⟨a, b⟩ := u
  obtain ⟨c, d⟩ := v
  obtain ⟨rfl, rfl⟩ := h
  rfl
theorem Bk.c8 {w : World} {g : Nat} {t : TypeId} {v0 v1 v2 v3 v4 v5 v6 v7 : Value} (h : Bk w g t #[v0, v1, v2, v3, v4, v5, v6, v7]) : (w.cell? ⟨g, 0, none⟩ = some v0 ∧ w.cell? ⟨g, 1, none⟩ = some v1 ∧ w.cell? ⟨g, 2, none⟩ = some v2 ∧ w.cell? ⟨g, 3, none⟩ = some v3 ∧ w.cell? ⟨g, 4, none⟩ = some v4 ∧ w.cell? ⟨g, 5, none⟩ = some v5 ∧ w.cell? ⟨g, 6, none⟩ = some v6 ∧ w.cell? ⟨g, 7, none⟩ = some v7) ∧ ∀ i, w.frozen? ⟨g, i, none⟩ = false := ⟨⟨h.cell 0, h.cell 1, h.cell 2, h.cell 3, h.cell 4, h.cell 5, h.cell 6, h.cell 7⟩, h.fr⟩
theorem rnd_world {F : Fence} {n m : Nat} {P : Program} {c : Code} {Q : Exit → Act → World → Prop} {a : Act} {w0 : World} (Fw : World → Prop) (h0 : Fw w0) (h : ∀ w1, Fw w1 → Code.roundsIn F n P c Q m a w1) : Code.roundsIn F n P c Q m a w0 := h w0 h0
/-- The four vectors of the iterator when k rounds are over. -/
def quart (a b c d : V2) : Array Value := #[.int .i64 a.x, .int .i64 a.y, .int .i64 b.x, .int .i64 b.y, .int .i64 c.x, .int .i64 c.y, .int .i64 d.x, .int .i64 d.y]
def sv (n m : Nat) : V2 := if n < 4 then dirK (4 * n + m) else rot (dirK (12 + m))
theorem sv_rot {n m : Nat} (hn : n < 4) (hm : m < 4) : rot (sv n m) = sv (n + 1) m := by
  unfold sv
  rw [if_pos hn]
  by_cases h : n + 1 < 4
  · rw [if_pos h, V2.ext' (dirK_rot _ (by omega))]; congr 1; omega
  · rw [if_neg h]; congr 2; omega
theorem sv_dir {n m : Nat} (hn : n < 4) : sv n m = dirK (4 * n + m) := if_pos hn
theorem wpi_world {F : Fence} {n : Nat} {P : Program} {c : Code} {Q : Exit → Act → World → Prop} {a : Act} {w0 : World} (Fw : World → Prop) (h0 : Fw w0) (h : ∀ w1, Fw w1 → Code.wpIn F n P c Q a w1) : Code.wpIn F n P c Q a w0 := h w0 h0
def dirI (n s : Nat) (w : World) (k : Nat) (A : World) : Prop := k ≤ n ∧ Bk A s 3 #[.int .i64 ((n : Int) - k)] ∧ Bk A (s + 1) 82 #[.int .i64 0, .int .i64 0] ∧ Bk A (s + 2) 4 #[.bool false] ∧ Below s w A
def dirX (n s : Nat) (w : World) (k : Nat) (A : World) : Prop := k = n ∧ Bk A (s + 1) 82 #[.int .i64 (dirK k).x, .int .i64 (dirK k).y] ∧ Bk A (s + 2) 4 #[.bool true] ∧ Below s w A
end Go.Proofs.YtdpoicfciogfnaaDoor
