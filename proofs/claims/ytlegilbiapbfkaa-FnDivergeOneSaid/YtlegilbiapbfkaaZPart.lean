/- Lemmas: Prts PrtsR PrtsI PrtsJ RInp Rept RInpI PLaw Same. -/
import Derived.Test.YtlegilbiapbfkaaZBase
import Derived.Deep.DeepMust
import Derived.Lib.SlicesMore
import Derived.Deep.LoopGhost
import Derived.Shelf.Bits.Mul64
import Derived.Laws.CopyOwn
import Derived.Deep.RegionLaw
/- Parts of inputs: the reference's (a slice that grows at its end), by its contract. -/
namespace Go.Proofs.Ytlegilbiapbfkaa
open Go.ChangeShapes Go.WideShapes Go.ChangeAt Go.RowKit
/-- The parts, the last one first, when one more code comes. -/
def bump : List Prt → Int → List Prt
  | [], c => [⟨c, 1⟩]
  | p :: ps, c => if p.c = c then ⟨p.c, p.m + 1⟩ :: ps else ⟨c, 1⟩ :: p :: ps
def rparts (l : List Inp) : List Prt := (l.map code).foldl bump []
def partsOf (l : List Inp) : List Prt := (rparts l).reverse
theorem rparts_take {l : List Inp} {k : Nat} {x : Inp} (hx : l[k]? = some x) : rparts (l.take (k + 1)) = bump (rparts (l.take k)) (code x) := by
  unfold rparts
  rw [List.take_add_one, hx, List.map_append, List.foldl_append]
  rfl
theorem bump_cons (p : Prt) (ps : List Prt) (c : Int) : bump (p :: ps) c = if p.c = c then ⟨p.c, p.m + 1⟩ :: ps else ⟨c, 1⟩ :: p :: ps := rfl
theorem bump_len (R : List Prt) (c : Int) : (bump R c).length ≤ R.length + 1 := by
  cases R with
  | nil => simp [bump]
  | cons p ps => rw [bump_cons]; split <;> simp
def mOk (b : Int) (R : List Prt) : Prop := ∀ p ∈ R, 0 ≤ p.m ∧ p.m ≤ b
theorem bump_m {R : List Prt} {c b : Int} (h : mOk b R) (hb : 0 ≤ b) : mOk (b + 1) (bump R c) := by
  cases R with
  | nil => intro p hp; simp [bump] at hp; subst hp; simp; omega
  | cons q ps =>
    rw [bump_cons]
    split
    · intro p hp
      rcases List.mem_cons.1 hp with rfl | hp
      · have := h q (List.mem_cons_self ..); simp; omega
      · have := h p (List.mem_cons_of_mem _ hp); omega
    · intro p hp
      rcases List.mem_cons.1 hp with rfl | hp
      · simp; omega
      · have := h p hp; omega
theorem rparts_bd (l : List Inp) : ∀ k, (rparts (l.take k)).length ≤ k ∧ mOk k (rparts (l.take k))
  | 0 => by simp [rparts, mOk]
  | k + 1 => by
    obtain ⟨h1, h2⟩ := rparts_bd l k
    cases hx : l[k]? with
    | none => rw [List.take_add_one, hx]; simp only [Option.toList, List.append_nil]; exact ⟨by omega, fun p hp => by have := h2 p hp; omega⟩
    | some x =>
      rw [rparts_take hx]
      exact ⟨by have := bump_len (rparts (l.take k)) (code x); omega, by have := bump_m (c := code x) h2 (by omega); exact fun p hp => by have := this p hp; omega⟩
/-- The last element's second field is written. -/
theorem Own.bumpLast {w : World} {B : Nat} {T : TypeId} {g cap : Nat} {p : Prt} {ps : List Prt} (m : Int) (h : Own w B T 2 encPrt (.slice (some ⟨g, 0, none⟩) (ps.length + 1) cap) (p :: ps).reverse) :
    Own (w.setCell ⟨g, ps.length * 2 + 1, none⟩ (.int .i64 m)) B T 2 encPrt (.slice (some ⟨g, 0, none⟩) (ps.length + 1) cap) (⟨p.c, m⟩ :: ps).reverse ∧ w.grownBy (w.setCell ⟨g, ps.length * 2 + 1, none⟩ (.int .i64 m)) (some g) := by
  have h0 : w.ownsRow B T 2 (.slice (some ⟨g, 0, none⟩) (ps.length + 1) cap) (ps.length + 1) ((p :: ps).reverse.flatMap encPrt) := by
    have := h; unfold Own at this; simpa using this
  obtain ⟨h1, h2⟩ := h0.stored (ps.length * 2 + 1) (.int .i64 m)
  refine ⟨?_, h2⟩
  unfold Own
  have e : ((p :: ps).reverse.flatMap encPrt).set (ps.length * 2 + 1) (.int .i64 m) = (⟨p.c, m⟩ :: ps : List Prt).reverse.flatMap encPrt := by
    have hl := flatMap_len (enc := encPrt) (sz := 2) encPrt_len ps.reverse
    simp only [List.length_reverse] at hl
    simp only [List.reverse_cons, List.flatMap_append, List.flatMap_cons, List.flatMap_nil, List.append_nil]
    rw [List.set_append_right _ _ (by omega), hl, show ps.length * 2 + 1 - ps.length * 2 = 1 by omega]
    rfl
  rw [← e]
  simpa using h1
theorem Own.nil_lit2 (w : World) (B : Nat) (T : TypeId) (hB : B ≤ w.heap.size) : Own (w.alloc (.cells #[] T)) B T 2 encPrt (.slice (some ⟨w.heap.size, 0, none⟩) 0 0) [] :=
  World.ownsRow_lit (base := B) (size := 2) w #[] 0 hB (by decide) rfl
end Go.Proofs.Ytlegilbiapbfkaa

/- slices.Reverse at []Part: a row of the call's own is turned round. -/
namespace Go.Proofs.Ytlegilbiapbfkaa
open Go.ChangeShapes Go.WideShapes Go.ChangeAt Go.RowKit
theorem setAll_right (a : List Value) : ∀ (vs b : List Value) (p : Nat), setAll (a ++ b) (a.length + p) vs = a ++ setAll b p vs
  | [], _, _ => rfl
  | v :: vs, b, p => by
    rw [setAll, setAll, List.set_append_right _ _ (by omega), Nat.add_sub_cancel_left, Nat.add_assoc]
    exact setAll_right a vs _ _
theorem setAll_front : ∀ (vs a c b : List Value), a.length = vs.length → setAll (c ++ (a ++ b)) c.length vs = c ++ (vs ++ b)
  | [], a, c, b, h => by cases a with
    | nil => rfl
    | cons => simp at h
  | v :: vs, [], c, b, h => by simp at h
  | v :: vs, x :: a, c, b, h => by
    rw [setAll, List.set_append_right _ _ (Nat.le_refl _), Nat.sub_self]
    have := setAll_front vs a (c ++ [v]) b (by simpa using h)
    simpa using this
theorem setAll_elem {α : Type} {enc : α → List Value} {sz : Nat} (he : ∀ x, (enc x).length = sz) : ∀ (l : List α) (k : Nat) (y : α), k < l.length → setAll (l.flatMap enc) (k * sz) (enc y) = (l.set k y).flatMap enc
  | [], k, y, h => by simp at h
  | x :: l, 0, y, _ => by
    have := setAll_front (enc y) (enc x) [] (l.flatMap enc) (by rw [he, he])
    simpa using this
  | x :: l, k + 1, y, h => by
    have h1 := setAll_right (enc x) (enc y) (l.flatMap enc) (k * sz)
    rw [he] at h1
    simp only [List.flatMap_cons, List.set_cons_succ]
    rw [show (k + 1) * sz = sz + k * sz by rw [Nat.add_mul, Nat.one_mul, Nat.add_comm], h1, setAll_elem he l k y (by simpa using h)]
/-- One element of an own slice is written. -/
theorem Own.put {α : Type} {enc : α → List Value} {sz : Nat} (he : ∀ x, (enc x).length = sz) {w : World} {B : Nat} {T : TypeId} {g n cap : Nat} {l : List α} (h : Own w B T sz enc (.slice (some ⟨g, 0, none⟩) n cap) l) (k : Nat) (hk : k < l.length) (y : α) :
    Own (putAll w g (k * sz) (enc y)) B T sz enc (.slice (some ⟨g, 0, none⟩) n cap) (l.set k y) ∧ w.grownBy (putAll w g (k * sz) (enc y)) (some g) := by
  obtain ⟨A', c', e, _⟩ := h.form
  have hn : n = l.length := by injection e
  subst hn
  obtain ⟨h1, h2⟩ := ownsRow_putAll (enc y) _ (k * sz) w h
  rw [setAll_elem he l k y hk] at h1
  refine ⟨?_, h2⟩
  unfold Own
  rw [List.length_set]
  exact h1
/-- Reverse has turned i elements at either end. -/
def RevAt {α : Type} (l l' : List α) (i : Nat) : Prop := l'.length = l.length ∧ ∀ m, m < l.length → l'[m]? = if m < i ∨ l.length < m + 1 + i then l[l.length - 1 - m]? else l[m]?
theorem RevAt.zero {α : Type} (l : List α) : RevAt l l 0 := ⟨rfl, fun m hm => by rw [if_neg (by omega)]⟩
theorem RevAt.step {α : Type} {l l' : List α} {i j : Nat} {x y : α} (h : RevAt l l' i) (hj : i + j + 1 = l.length) (hij : i < j) (hx : l'[i]? = some x) (hy : l'[j]? = some y) : RevAt l ((l'.set i y).set j x) (i + 1) := by
  refine ⟨by simp [h.1], fun m hm => ?_⟩
  have h0 := h.1
  by_cases h1 : m = j
  · subst h1
    rw [List.getElem?_set_self (by simp; omega), if_pos (by omega), ← hx, h.2 i (by omega), if_neg (by omega)]
    congr 1
    omega
  · rw [List.getElem?_set_ne (fun e => h1 e.symm)]
    by_cases h2 : m = i
    · subst h2
      rw [List.getElem?_set_self (by omega), if_pos (by omega), ← hy, h.2 j (by omega), if_neg (by omega)]
      congr 1
      omega
    · rw [List.getElem?_set_ne (fun e => h2 e.symm), h.2 m hm]
      by_cases h3 : m < i ∨ l.length < m + 1 + i
      · rw [if_pos h3, if_pos (by omega)]
      · rw [if_neg h3, if_neg (by omega)]
theorem RevAt.done {α : Type} {l l' : List α} {i : Nat} (h : RevAt l l' i) (hi : l.length ≤ 2 * i + 1) : l' = l.reverse := by
  apply List.ext_getElem?
  intro m
  by_cases hm : m < l.length
  · rw [h.2 m hm, List.getElem?_reverse hm]
    split
    · rfl
    · congr 1; omega
  · rw [List.getElem?_eq_none (by rw [h.1]; omega), List.getElem?_eq_none (by simp; omega)]
end Go.Proofs.Ytlegilbiapbfkaa

/- Parts of inputs: the program's linked list, by its contract. -/
namespace Go.Proofs.Ytlegilbiapbfkaa
open Go.ChangeShapes Go.WideShapes Go.ChangeAt Go.RowKit
/-- A linked list of parts: its nodes lie ever lower, none below B. -/
def Lk (w : World) (B : Nat) : Value → List Prt → Nat → Prop
  | v, [], _ => v = .pointer none
  | v, p :: ps, u => ∃ b v', v = .pointer (some ⟨b, 0, none⟩) ∧ B ≤ b ∧ b < u ∧ Blk w b [.int .i64 p.c, .int .i64 p.m, v'] ∧ w.frozen? ⟨b, 1, none⟩ = false ∧ Lk w B v' ps b
theorem Lk.below {w w' : World} {B N : Nat} (hb : Below N w w') : ∀ {R : List Prt} {v : Value} {u : Nat}, Lk w B v R u → u ≤ N → Lk w' B v R u
  | [], _, _, h, _ => h
  | _ :: _, _, _, ⟨b, v', e, h1, h2, h3, hf, h4⟩, hu => ⟨b, v', e, h1, h2, h3.below hb (by omega), (hb.frozen (p := ⟨b, 1, none⟩) (show b < N by omega)).trans hf, h4.below hb (by omega)⟩
theorem Lk.mono {w : World} {B u u' : Nat} (hu : u ≤ u') : ∀ {R : List Prt} {v : Value}, Lk w B v R u → Lk w B v R u'
  | [], _, h => h
  | _ :: _, _, ⟨b, v', e, h1, h2, h3, hf, h4⟩ => ⟨b, v', e, h1, by omega, h3, hf, h4⟩
end Go.Proofs.Ytlegilbiapbfkaa

/- ReplayParts: the reference's and the program's. -/
namespace Go.Proofs.Ytlegilbiapbfkaa
open Go.ChangeShapes Go.WideShapes Go.ChangeAt Go.RowKit
def partsL (l : List Inp) : List Prt := if inputsOkB l then partsOf l else []
theorem Lk.bump {w : World} {B b u : Nat} {p : Prt} {ps : List Prt} {v' : Value} (m : Int) (h1 : B ≤ b) (h2 : b < u) (hBk : Blk w b [.int .i64 p.c, .int .i64 p.m, v']) (hf : w.frozen? ⟨b, 1, none⟩ = false) (h4 : Lk w B v' ps b) :
    Lk (w.setCell ⟨b, 1, none⟩ (.int .i64 m)) B (.pointer (some ⟨b, 0, none⟩)) (⟨p.c, m⟩ :: ps) u := by
  obtain ⟨r0, r1, r2⟩ := hBk.c3
  have hbb := below_setCell (p := ⟨b, 1, none⟩) (Nat.le_refl b) (Below.refl b w) (.int .i64 m)
  refine ⟨b, v', rfl, h1, h2, ⟨Nat.lt_of_lt_of_le hBk.1 hbb.size, fun j v hv => ?_⟩, by simpa using hf, h4.below hbb (Nat.le_refl _)⟩
  match j, hv with
  | 0, hv => exact (World.cell?_setCell_other w ⟨b, 1, none⟩ _ _ (by simp)).trans (hBk.2 0 v hv)
  | 1, hv => exact (World.cell?_setCell_same w _ _ r1).trans hv
  | 2, hv => exact (World.cell?_setCell_other w ⟨b, 1, none⟩ _ _ (by simp)).trans (hBk.2 2 v hv)
end Go.Proofs.Ytlegilbiapbfkaa

/- ReplayInputs: the plain function; the reference's by its contract. -/
namespace Go.Proofs.Ytlegilbiapbfkaa
open Go.ChangeShapes Go.WideShapes Go.ChangeAt Go.RowKit
def outTo (ps : List Prt) (k : Nat) : List Inp := (ps.take k).flatMap fun p => List.replicate p.m.toNat (inpOf p.c)
/-- Is part number k wrong? -/
def badP (ps : List Prt) (k : Nat) : Bool :=
  match ps[k]? with
  | none => false
  | some p => !codeOk p.c || (!inR 1 (60 - (outTo ps k).length) p.m || (decide (0 < k) && (match ps[k - 1]? with | some q => q.c == p.c | none => false)))
def goodParts (ps : List Prt) : Bool := (List.range ps.length).all fun k => !badP ps k
def inputsOf (ps : List Prt) : List Inp := if goodParts ps then outTo ps ps.length else []
theorem goodParts_iff {ps : List Prt} : goodParts ps = true ↔ ∀ j, j < ps.length → badP ps j = false := by
  simp [goodParts]
theorem goodParts_no {ps : List Prt} {k : Nat} (hk : k < ps.length) (h : badP ps k = true) : goodParts ps = false := by
  cases e : goodParts ps with
  | false => rfl
  | true => rw [goodParts_iff.1 e k hk] at h; cases h
theorem outTo_succ {ps : List Prt} {k : Nat} {p : Prt} (hp : ps[k]? = some p) : outTo ps (k + 1) = outTo ps k ++ List.replicate p.m.toNat (inpOf p.c) := by
  unfold outTo
  rw [List.take_add_one, hp, List.flatMap_append]
  simp
theorem badP_eq {ps : List Prt} {k : Nat} {p : Prt} (hp : ps[k]? = some p) : badP ps k = (!codeOk p.c || (!inR 1 (60 - (outTo ps k).length) p.m || (decide (0 < k) && (match ps[k - 1]? with | some q => q.c == p.c | none => false)))) := by
  unfold badP; rw [hp]
theorem outTo_len {ps : List Prt} {k : Nat} (h : ∀ j, j < k → badP ps j = false) (hk : k ≤ ps.length) : (outTo ps k).length ≤ 60 := by
  cases k with
  | zero => simp [outTo]
  | succ k =>
    have hx : ps[k]? = some (ps[k]'(by omega)) := List.getElem?_eq_getElem _
    have hb := h k (by omega)
    rw [badP_eq hx] at hb
    simp only [Bool.or_eq_false_iff, Bool.not_eq_false', inR_iff] at hb
    rw [outTo_succ hx, List.length_append, List.length_replicate]
    omega
def RetOwnB {α : Type} (T : TypeId) (sz : Nat) (enc : α → List Value) (l : List α) (b : Bool) (w : World) (e : Ending) (w' : World) : Prop :=
  ∃ A c, e = .returned (.tuple #[.slice A l.length c, .bool b]) ∧ l.length ≤ c ∧ Own w' w.heap.size T sz enc (.slice A l.length c) l ∧ Below w.heap.size w w'
theorem prt_at {w : World} {b off k : Nat} {x : Prt} (hc : ∀ j v, (encPrt x)[j]? = some v → w.cell? ⟨b, off + k * 2 + j, none⟩ = some v) : w.cell? ⟨b, off + k * 2, none⟩ = some (.int .i64 x.c) ∧ w.cell? ⟨b, off + k * 2 + 1, none⟩ = some (.int .i64 x.m) := ⟨hc 0 _ rfl, hc 1 _ rfl⟩
theorem own_nil_inp (w : World) (B N : Nat) (T : TypeId) (hB : B ≤ w.heap.size) (hN : w.heap.size = N) : Own (w.alloc (.cells #[] T)) B T 3 encInp (.slice (some ⟨N, 0, none⟩) 0 0) [] := by
  subst hN
  exact World.ownsRow_lit (base := B) (size := 3) w #[] 0 hB (by decide) rfl
theorem Own.drewN {α : Type} {w : World} {B : Nat} {T : TypeId} {sz : Nat} {enc : α → List Value} {v : Value} {l : List α} (h : Own w B T sz enc v l) (n : Nat) : Own (w.drewN n) B T sz enc v l := h
end Go.Proofs.Ytlegilbiapbfkaa

/- slices.Repeat of one input; math/bits.Mul. -/
namespace Go.Proofs.Ytlegilbiapbfkaa
open Go.ChangeShapes Go.WideShapes Go.ChangeAt Go.RowKit
theorem run_copyN {P : Program} (w : World) (dT sT ty elem : TypeId) (g o dLen dCap : Nat) (a : Addr) (sLen sCap : Nat) (cur : Array Value) (t : TypeId) (cs : List Value) (n sz : Nat)
    (hu : P.underlying dT = some (.slice elem)) (hs : (P.info? elem).map (·.size) = some sz)
    (hg : w.heap[g]? = some (.cells cur t (0, 0))) (hm : Nat.min sLen dLen = n) (hn : cs.length = n * sz)
    (hsrc : ∀ j v, cs[j]? = some v → w.cell? (a.add j) = some v) (hfit : o + cs.length ≤ cur.size) (h1 : ∀ v ∈ cs, v.oneCell' = true) :
    (Builtin.copy_ #[dT, sT] ty #[.slice (some ⟨g, o, none⟩) dLen dCap, .slice (some a) sLen sCap]).run P w =
      .ok (goInt n) (w.setRow g (cur.toList.take o ++ cs ++ cur.toList.drop (o + cs.length)).toArray) := by
  have hl := run_loadCells_list (P := P) w a cs hsrc
  have hst := run_storeCells_at P g o t cs 0 cur w hg (by simpa using hfit) h1
  cases hq : P.info? elem with
  | none => simp [hq] at hs
  | some i =>
    have hi : i.size = sz := by simpa [hq] using hs
    have hm' : min sLen dLen = n := hm
    rw [hn] at hl
    simp [Builtin.copy_, run_underlying hu, Builtin.lenOf, Builtin.firstCells, sizeOf, typeInfo, hq, hi, hm', hl, hst]
theorem wp_copyN {P : Program} {w : World} {o : Oper} {a : Act} {K : Act → World → Prop} {Q : Exit → Act → World → Prop} (d s : Operand) (dT sT : TypeId)
    (ho : o.op = .call { callee := .builtin .copy, args := #[d, s], argTypes := #[dT, sT] }) (elem : TypeId) (sz : Nat) (hu : P.underlying dT = some (.slice elem)) (hsz : (P.info? elem).map (·.size) = some sz)
    (g off dLen dCap : Nat) (ad : Addr) (sLen sCap : Nat) (hd : a.eval d = .slice (some ⟨g, off, none⟩) dLen dCap) (hs : a.eval s = .slice (some ad) sLen sCap)
    (cur : Array Value) (t : TypeId) (hg : w.heap[g]? = some (.cells cur t (0, 0))) (cs : List Value) (n : Nat) (hm : Nat.min sLen dLen = n) (hn : cs.length = n * sz)
    (hsrc : ∀ j v, cs[j]? = some v → w.cell? (ad.add j) = some v) (hfit : off + cs.length ≤ cur.size) (h1 : ∀ v ∈ cs, v.oneCell' = true)
    (h : ∀ w', w'.heap[g]? = some (.cells (cur.toList.take off ++ cs ++ cur.toList.drop (off + cs.length)).toArray t (0, 0)) → Below g w w' → K (a.put o.dst (goInt n)) w') : o.wp P a w K Q := by
  have hrun := run_copyN (P := P) w dT sT o.type elem g off dLen dCap ad sLen sCap cur t cs n sz hu hsz hg hm hn hsrc hfit h1
  unfold Oper.wp
  simp [execOp, ho, resolve, invoke, builtin, hd, hs, hrun, Result.andThen]
  exact h _ (by simpa using setRow_heap w g cur _ t _ hg) (below_setRow (Below.refl _ _) (Nat.le_refl _) _)
theorem wpList_copyN {P : Program} {w : World} {ops : Array Oper} {rest : List Oper} {o : Oper} {a : Act} {Q : Exit → Act → World → Prop} (hgd : o.guard = none) (d s : Operand) (dT sT : TypeId)
    (ho : o.op = .call { callee := .builtin .copy, args := #[d, s], argTypes := #[dT, sT] }) (elem : TypeId) (sz : Nat) (hu : P.underlying dT = some (.slice elem)) (hsz : (P.info? elem).map (·.size) = some sz)
    (g off dLen dCap : Nat) (ad : Addr) (sLen sCap : Nat) (hd : a.eval d = .slice (some ⟨g, off, none⟩) dLen dCap) (hs : a.eval s = .slice (some ad) sLen sCap)
    (cur : Array Value) (t : TypeId) (hg : w.heap[g]? = some (.cells cur t (0, 0))) (cs : List Value) (n : Nat) (hm : Nat.min sLen dLen = n) (hn : cs.length = n * sz)
    (hsrc : ∀ j v, cs[j]? = some v → w.cell? (ad.add j) = some v) (hfit : off + cs.length ≤ cur.size) (h1 : ∀ v ∈ cs, v.oneCell' = true)
    (h : ∀ w', w'.heap[g]? = some (.cells (cur.toList.take off ++ cs ++ cur.toList.drop (off + cs.length)).toArray t (0, 0)) → Below g w w' → wpList P ops Q rest (a.put o.dst (goInt n)) w') : wpList P ops Q (o :: rest) a w :=
  wpList_plain hgd fun _ hK => wp_copyN d s dT sT ho elem sz hu hsz g off dLen dCap ad sLen sCap hd hs cur t hg cs n hm hn hsrc hfit h1 fun w' a b => hK _ _ (h w' a b)
theorem step_copyN {P : Program} {ops : Array Oper} {w : World} {o : Oper} {a : Act} {K : Act → World → Prop} {Q : Exit → Act → World → Prop} {E : Prop} (hgd : o.guard = none) (d s : Operand) (dT sT : TypeId)
    (ho : o.op = .call { callee := .builtin .copy, args := #[d, s], argTypes := #[dT, sT] }) (elem : TypeId) (sz : Nat) (hu : P.underlying dT = some (.slice elem)) (hsz : (P.info? elem).map (·.size) = some sz)
    (g off dLen dCap : Nat) (ad : Addr) (sLen sCap : Nat) (hd : a.eval d = .slice (some ⟨g, off, none⟩) dLen dCap) (hs : a.eval s = .slice (some ad) sLen sCap)
    (cur : Array Value) (t : TypeId) (hg : w.heap[g]? = some (.cells cur t (0, 0))) (cs : List Value) (n : Nat) (hm : Nat.min sLen dLen = n) (hn : cs.length = n * sz)
    (hsrc : ∀ j v, cs[j]? = some v → w.cell? (ad.add j) = some v) (hfit : off + cs.length ≤ cur.size) (h1 : ∀ v ∈ cs, v.oneCell' = true)
    (h : ∀ w', w'.heap[g]? = some (.cells (cur.toList.take off ++ cs ++ cur.toList.drop (off + cs.length)).toArray t (0, 0)) → Below g w w' → K (a.put o.dst (goInt n)) w') :
    if Region.wanted o (yielded ops a.tmps) = true then Oper.wp P o a w K Q else E := by
  have hw : Region.wanted o (yielded ops a.tmps) = true := by simp [Region.wanted, hgd]
  rw [if_pos hw]
  exact wp_copyN d s dT sT ho elem sz hu hsz g off dLen dCap ad sLen sCap hd hs cur t hg cs n hm hn hsrc hfit h1 h
theorem block_of_add (a : Addr) (n : Nat) : (a.add n).block = a.block := by unfold Addr.add; split <;> rfl
def cellsX (x : Inp) (n : Nat) : List Value := (List.replicate n x).flatMap encInp
theorem cellsX_len (x : Inp) (n : Nat) : (cellsX x n).length = n * 3 := by unfold cellsX; rw [flatMap_len encInp_len, List.length_replicate]
theorem cellsX_add (x : Inp) (a b : Nat) : cellsX x (a + b) = cellsX x a ++ cellsX x b := by
  unfold cellsX; rw [← List.replicate_append_replicate, List.flatMap_append]
theorem cellsX_one (x : Inp) : cellsX x 1 = encInp x := by simp [cellsX]
theorem cellsX_one' (x : Inp) (n : Nat) : ∀ v ∈ cellsX x n, v.oneCell' = true := by
  intro u hu
  obtain ⟨y, _, hy⟩ := List.mem_flatMap.1 hu
  exact one_inp y u hy
theorem splice_X (x : Inp) (n k : Nat) (R : List Value) :
    (cellsX x n ++ R).take (n * 3) ++ cellsX x k ++ (cellsX x n ++ R).drop (n * 3 + (cellsX x k).length) = cellsX x (n + k) ++ R.drop (k * 3) := by
  have h1 := cellsX_len x n
  have h2 := cellsX_len x k
  rw [List.take_append_of_le_length (by omega), List.take_of_length_le (by omega), h2, ← h1, List.drop_length_add_append, cellsX_add]
theorem own_of_Bk {w : World} {B g m : Nat} {T : TypeId} {x : Inp} (h : Bk w g T (cellsX x m).toArray) (hB : B ≤ g) (hm : m ≤ maxLen) : Own w B T 3 encInp (.slice (some ⟨g, 0, none⟩) m m) (List.replicate m x) := by
  have hl := cellsX_len x m
  have e : (List.replicate m x).length = m := List.length_replicate
  refine ⟨by rw [e]; exact hl, .inr ⟨g, m, _, by rw [e], hB, h, by omega, hm, by simpa using hl, ?_⟩⟩
  rw [e, List.take_of_length_le (by rw [List.toList_toArray]; omega)]
  rfl
end Go.Proofs.Ytlegilbiapbfkaa

/- ReplayInputs: the program's by its contract. Printed by gen/rinpi.py. -/
namespace Go.Proofs.Ytlegilbiapbfkaa
open Go.ChangeShapes Go.WideShapes Go.ChangeAt Go.RowKit
theorem Sl.inp1 (w : World) (T : TypeId) (x : Inp) {g : Nat} (hg : w.heap.size = g) : Sl (w.alloc (.cells #[.int .i64 x.s, .int .i64 x.p, .bool x.z] T)) 3 encInp (some ⟨g, 0, none⟩) 1 [x] := hg ▸ Sl.one w x T _ rfl
end Go.Proofs.Ytlegilbiapbfkaa

/- Parts and inputs: the plain laws. No program is named here. -/
namespace Go.Proofs.Ytlegilbiapbfkaa
open Go.RowKit
def expC (ps : List Prt) : List Int := ps.flatMap fun p => List.replicate p.m.toNat p.c
/-- Parts, the last one first: none empty, and neighbours have different codes. -/
def Alt : List Prt → Prop
  | [] => True
  | p :: ps => 1 ≤ p.m ∧ (∀ q, ps.head? = some q → q.c ≠ p.c) ∧ Alt ps
theorem bump_alt {R : List Prt} {c : Int} (h : Alt R) : Alt (bump R c) := by
  cases R with
  | nil => exact ⟨Int.le_refl _, fun q hq => (by cases hq), trivial⟩
  | cons p ps =>
    obtain ⟨h1, h2, h3⟩ := h
    rw [bump_cons]
    split
    · exact ⟨by simp only; omega, h2, h3⟩
    · rename_i hne
      exact ⟨Int.le_refl _, fun q hq => by simp only [List.head?_cons, Option.some.injEq] at hq; subst hq; exact hne, h1, h2, h3⟩
theorem bump_exp {R : List Prt} {c : Int} (h : Alt R) : expC (bump R c).reverse = expC R.reverse ++ [c] := by
  cases R with
  | nil => rfl
  | cons p ps =>
    obtain ⟨h1, h2, h3⟩ := h
    rw [bump_cons]
    split
    · rename_i he
      subst he
      have e : (p.m + 1).toNat = p.m.toNat + 1 := by omega
      simp only [expC, List.reverse_cons, List.flatMap_append, List.flatMap_cons, List.flatMap_nil, List.append_nil, e, List.replicate_succ', List.append_assoc]
    · simp only [expC, List.reverse_cons, List.flatMap_append, List.flatMap_cons, List.flatMap_nil, List.append_nil, List.append_assoc]
      rfl
theorem rb_alt : ∀ (cs : List Int) (R : List Prt), Alt R → Alt (cs.foldl bump R) ∧ expC (cs.foldl bump R).reverse = expC R.reverse ++ cs
  | [], R, h => ⟨h, by simp⟩
  | c :: cs, R, h => by
    obtain ⟨h1, h2⟩ := rb_alt cs (bump R c) (bump_alt h)
    refine ⟨h1, ?_⟩
    rw [List.foldl_cons, h2, bump_exp h, List.append_assoc]
    rfl
theorem rparts_alt (l : List Inp) : Alt (rparts l) := (rb_alt _ [] trivial).1
theorem partsOf_exp (l : List Inp) : expC (partsOf l) = l.map code := (rb_alt (l.map code) [] trivial).2
theorem bump_rep {c : Int} : ∀ (n : Nat) (R : List Prt) (m : Int), (List.replicate n c).foldl bump (⟨c, m⟩ :: R) = ⟨c, m + n⟩ :: R
  | 0, R, m => by simp
  | n + 1, R, m => by
    rw [List.replicate_succ, List.foldl_cons, bump_cons, if_pos rfl]
    simp only
    rw [bump_rep n R (m + 1)]
    have : m + 1 + (n : Int) = m + ((n + 1 : Nat) : Int) := by omega
    rw [this]
theorem bump_new {c : Int} {n : Nat} {R : List Prt} (hn : 1 ≤ n) (h : ∀ q, R.head? = some q → q.c ≠ c) : (List.replicate n c).foldl bump R = ⟨c, n⟩ :: R := by
  obtain ⟨m, rfl⟩ : ∃ m, n = m + 1 := ⟨n - 1, by omega⟩
  rw [List.replicate_succ, List.foldl_cons]
  have hb : bump R c = ⟨c, 1⟩ :: R := by
    cases R with
    | nil => rfl
    | cons q qs => rw [bump_cons, if_neg (h q rfl)]
  rw [hb, bump_rep]
  have : (1 : Int) + (m : Int) = ((m + 1 : Nat) : Int) := by omega
  rw [this]
theorem code_inpOf {c : Int} (h : codeOk c = true) : code (inpOf c) = c := by
  simp only [codeOk, Bool.and_eq_true, decide_eq_true_eq] at h
  unfold inpOf
  split
  · simp [code]; omega
  · rw [if_pos (by omega)]
    simp only [code]
    simp
    omega
theorem inpOf_code {x : Inp} (h : inpOk x = true) : inpOf (code x) = x := by
  have h' := inpOk_bd h
  obtain ⟨s, p, z⟩ := x
  simp only at h'
  cases z with
  | true =>
    obtain ⟨_, _, _, _, h5⟩ := h'
    obtain ⟨rfl, rfl⟩ := h5 rfl
    simp [code, inpOf]
  | false =>
    have hc : code ⟨s, p, false⟩ = 3 * p + s + 1 := rfl
    rw [hc]
    unfold inpOf
    rw [if_neg (by omega), if_pos (by omega)]
    have e1 : (3 * p + s + 1) % 3 - 1 = s := by omega
    have e2 : (3 * p + s + 1) / 3 = p := by omega
    rw [e1, e2]
theorem code_ok {x : Inp} (h : inpOk x = true) : codeOk (code x) = true := by
  have h' := inpOk_bd h
  obtain ⟨s, p, z⟩ := x
  simp only at h'
  cases z <;> simp [code, codeOk]
  omega
theorem inpOf_ok (c : Int) (h : codeOk c = true) : inpOk (inpOf c) = true := by
  simp only [codeOk, Bool.and_eq_true, decide_eq_true_eq] at h
  unfold inpOf
  split
  · rfl
  · rw [if_pos (by omega)]
    simp [inpOk]
    omega
/-! ### inputs of parts of inputs -/
theorem outTo_exp (ps : List Prt) (k : Nat) : outTo ps k = (expC (ps.take k)).map inpOf := by
  unfold outTo expC
  rw [List.map_flatMap]
  congr 1
  funext p
  rw [List.map_replicate]
theorem map_inpOf {l : List Inp} (h : ∀ x ∈ l, inpOk x = true) : (l.map code).map inpOf = l := by
  rw [List.map_map]
  have : ∀ x ∈ l, (inpOf ∘ code) x = id x := fun x hx => inpOf_code (h x hx)
  rw [List.map_congr_left this, List.map_id]
theorem alt_at : ∀ {R : List Prt}, Alt R → (∀ p ∈ R, 1 ≤ p.m) ∧ ∀ k p q, R[k]? = some p → R[k + 1]? = some q → q.c ≠ p.c
  | [], _ => ⟨fun p hp => (by cases hp), fun k p q h => (by simp at h)⟩
  | a :: R, h => by
    obtain ⟨h1, h2, h3⟩ := h
    obtain ⟨g1, g2⟩ := alt_at h3
    refine ⟨fun p hp => ?_, fun k p q hp hq => ?_⟩
    · rcases List.mem_cons.1 hp with rfl | hp
      · exact h1
      · exact g1 p hp
    · cases k with
      | zero =>
        simp only [List.getElem?_cons_zero, Option.some.injEq] at hp
        subst hp
        rw [List.getElem?_cons_succ] at hq
        exact h2 q (by rw [List.head?_eq_getElem?]; exact hq)
      | succ k =>
        rw [List.getElem?_cons_succ] at hp hq
        exact g2 k p q hp hq
theorem parts_m {l : List Inp} {p : Prt} (h : p ∈ partsOf l) : 1 ≤ p.m := (alt_at (rparts_alt l)).1 p (by unfold partsOf at h; simpa using h)
theorem parts_ne {l : List Inp} {k : Nat} {p q : Prt} (hp : (partsOf l)[k]? = some p) (hq : (partsOf l)[k + 1]? = some q) : p.c ≠ q.c := by
  unfold partsOf at hp hq
  have hk : k + 1 < (rparts l).length := by
    have := (List.getElem?_eq_some_iff.1 hq).1
    simpa using this
  rw [List.getElem?_reverse (by omega)] at hp
  rw [List.getElem?_reverse (by omega)] at hq
  have e : (rparts l).length - 1 - k = (rparts l).length - 1 - (k + 1) + 1 := by omega
  rw [e] at hp
  exact (alt_at (rparts_alt l)).2 _ _ _ hq hp
theorem exp_len (ps : List Prt) : (expC ps).length = (ps.map fun p => p.m.toNat).sum := by
  unfold expC
  rw [List.length_flatMap]
  congr 1
  apply List.map_congr_left
  intro p _
  rw [List.length_replicate]
theorem exp_take_le (ps : List Prt) (k : Nat) : (expC (ps.take k)).length ≤ (expC ps).length := by
  have h : expC ps = expC (ps.take k) ++ expC (ps.drop k) := by
    unfold expC
    rw [← List.flatMap_append, List.take_append_drop]
  rw [h, List.length_append]
  omega
theorem exp_mem {ps : List Prt} {p : Prt} (h : p ∈ ps) (hm : 1 ≤ p.m) : p.c ∈ expC ps := by
  unfold expC
  rw [List.mem_flatMap]
  exact ⟨p, h, by rw [List.mem_replicate]; exact ⟨by omega, rfl⟩⟩
theorem good_partsOf {l : List Inp} (h : inputsOkB l = true) : goodParts (partsOf l) = true := by
  obtain ⟨hv, hl⟩ := inputsOkB_iff.1 h
  rw [goodParts_iff]
  intro k hk
  have hp : (partsOf l)[k]? = some ((partsOf l)[k]'hk) := List.getElem?_eq_getElem _
  generalize (partsOf l)[k]'hk = p at hp
  have hmem : p ∈ partsOf l := List.mem_of_getElem? hp
  have hm := parts_m hmem
  rw [badP_eq hp]
  have hc : codeOk p.c = true := by
    have := exp_mem hmem hm
    rw [partsOf_exp] at this
    obtain ⟨x, hx, hxc⟩ := List.mem_map.1 this
    rw [← hxc]
    exact code_ok (hv x hx)
  have hlen : (outTo (partsOf l) k).length + p.m.toNat ≤ 60 := by
    have h1 : (outTo (partsOf l) (k + 1)).length ≤ 60 := by
      rw [outTo_exp, List.length_map]
      have := exp_take_le (partsOf l) (k + 1)
      rw [partsOf_exp, List.length_map] at this
      omega
    rw [outTo_succ hp, List.length_append, List.length_replicate] at h1
    exact h1
  have hr : inR 1 (60 - (outTo (partsOf l) k).length) p.m = true := by
    rw [inR_iff]; omega
  rw [hc, hr]
  cases k with
  | zero => rfl
  | succ k =>
    have hq : (partsOf l)[k]? = some ((partsOf l)[k]'(by omega)) := List.getElem?_eq_getElem _
    generalize (partsOf l)[k]'(by omega) = q at hq
    have hne := parts_ne hq hp
    have : (partsOf l)[k + 1 - 1]? = some q := hq
    rw [this]
    simp [hne]
theorem inputs_partsOf {l : List Inp} (h : inputsOkB l = true) : inputsOf (partsOf l) = l := by
  unfold inputsOf
  rw [good_partsOf h, if_pos rfl, outTo_exp, List.take_length, partsOf_exp, map_inpOf (inputsOkB_iff.1 h).1]
theorem partsL_pos {l : List Inp} (h : 0 < (partsL l).length) : inputsOkB l = true ∧ partsL l = partsOf l ∧ 0 < l.length := by
  unfold partsL at *
  cases hi : inputsOkB l with
  | false => rw [hi] at h; simp at h
  | true =>
    rw [hi] at h
    refine ⟨rfl, by simp, ?_⟩
    cases l with
    | nil => simp [partsOf, rparts] at h
    | cons => simp
/-! ### parts of inputs of parts -/
theorem parts_inputs {ps : List Prt} : ∀ k, k ≤ ps.length → (∀ j, j < k → badP ps j = false) → rparts (outTo ps k) = (ps.take k).reverse ∧ (∀ x ∈ outTo ps k, inpOk x = true)
  | 0, _, _ => ⟨by simp [outTo, rparts], by simp [outTo]⟩
  | k + 1, hk, h => by
    obtain ⟨ih, ihv⟩ := parts_inputs k (by omega) fun j hj => h j (by omega)
    have hp : ps[k]? = some (ps[k]'(by omega)) := List.getElem?_eq_getElem _
    generalize ps[k]'(by omega) = p at hp
    have hb := h k (by omega)
    rw [badP_eq hp] at hb
    simp only [Bool.or_eq_false_iff, Bool.not_eq_false'] at hb
    obtain ⟨hc, hr, hne⟩ := hb
    obtain ⟨m1, m2⟩ := inR_iff.1 hr
    refine ⟨?_, fun x hx => ?_⟩
    · rw [outTo_succ hp]
      have e1 : rparts (outTo ps k ++ List.replicate p.m.toNat (inpOf p.c)) = (List.replicate p.m.toNat p.c).foldl bump (rparts (outTo ps k)) := by
        unfold rparts
        rw [List.map_append, List.foldl_append, List.map_replicate, code_inpOf hc]
      rw [e1, ih, bump_new (by omega), List.take_add_one, hp]
      · have e2 : ((p.m.toNat : Nat) : Int) = p.m := by omega
        rw [e2]
        simp
      · intro q hq
        rw [List.head?_reverse, List.getLast?_take] at hq
        split at hq
        · cases hq
        · rename_i hk0
          have hk1 : decide (0 < k) = true := by simp; omega
          rw [hk1] at hne
          have hq' : ps[k - 1]? = some (ps[k - 1]'(by omega)) := List.getElem?_eq_getElem _
          rw [hq'] at hq hne
          simp only [Option.some_or, Option.some.injEq] at hq
          subst hq
          simpa using hne
    · rw [outTo_succ hp, List.mem_append] at hx
      rcases hx with hx | hx
      · exact ihv x hx
      · rw [List.mem_replicate] at hx
        rw [hx.2]
        exact inpOf_ok _ hc
theorem partsL_inputs {ps : List Prt} (h : goodParts ps = true) : partsL (inputsOf ps) = ps ∧ inputsOkB (inputsOf ps) = true ∧ (inputsOf ps).length ≤ 60 := by
  have hg := goodParts_iff.1 h
  obtain ⟨h1, h2⟩ := parts_inputs ps.length (Nat.le_refl _) hg
  have h3 := outTo_len hg (Nat.le_refl _)
  have e : inputsOf ps = outTo ps ps.length := by unfold inputsOf; rw [h, if_pos rfl]
  have hi : inputsOkB (outTo ps ps.length) = true := inputsOkB_iff.2 ⟨h2, h3⟩
  refine ⟨?_, by rw [e]; exact hi, by rw [e]; exact h3⟩
  rw [e]
  unfold partsL
  rw [hi, if_pos rfl]
  unfold partsOf
  rw [h1, List.take_length, List.reverse_reverse]
theorem split_bad {ps : List Prt} {k : Nat} {p : Prt} (hp : ps[k]? = some p) : goodParts (ps.take (k + 1) ++ [⟨p.c, 1⟩] ++ ps.drop (k + 1)) = false := by
  have hk : k < ps.length := (List.getElem?_eq_some_iff.1 hp).1
  have hl : (ps.take (k + 1)).length = k + 1 := by rw [List.length_take]; omega
  refine goodParts_no (k := k + 1) (by simp only [List.length_append, hl, List.length_cons, List.length_nil]; omega) ?_
  have hx : (ps.take (k + 1) ++ [⟨p.c, 1⟩] ++ ps.drop (k + 1))[k + 1]? = some ⟨p.c, 1⟩ := by
    rw [List.append_assoc, List.getElem?_append_right (by omega), hl, Nat.sub_self]
    rfl
  have hy : (ps.take (k + 1) ++ [⟨p.c, 1⟩] ++ ps.drop (k + 1))[k + 1 - 1]? = some p := by
    rw [Nat.add_sub_cancel, List.append_assoc, List.getElem?_append_left (by omega), List.getElem?_take, if_pos (by omega)]
    exact hp
  rw [badP_eq hx, hy]
  simp
theorem parts_one {x : Inp} {n : Nat} (hx : inpOk x = true) (h1 : 1 ≤ n) (h2 : n ≤ 60) : partsL (List.replicate n x) = [⟨code x, n⟩] := by
  have hi : inputsOkB (List.replicate n x) = true := inputsOkB_iff.2 ⟨fun y hy => by rw [(List.mem_replicate.1 hy).2]; exact hx, by rw [List.length_replicate]; exact h2⟩
  unfold partsL
  rw [hi, if_pos rfl]
  unfold partsOf rparts
  rw [List.map_replicate, bump_new h1 (fun q hq => by cases hq)]
  rfl
def sumM (ps : List Prt) : Int := (ps.map (·.m)).sum
theorem sum_toNat : ∀ (ps : List Prt), (∀ p ∈ ps, 1 ≤ p.m) → (((ps.map fun p => p.m.toNat).sum : Nat) : Int) = sumM ps
  | [], _ => rfl
  | p :: ps, h => by
    have h1 := h p (List.mem_cons_self ..)
    have h2 := sum_toNat ps fun q hq => h q (List.mem_cons_of_mem _ hq)
    unfold sumM at *
    simp only [List.map_cons, List.sum_cons]
    rw [Int.natCast_add, h2]
    omega
theorem parts_sum (l : List Inp) : sumM (partsOf l) = l.length := by
  rw [← sum_toNat _ fun p hp => parts_m hp, ← exp_len, partsOf_exp, List.length_map]
theorem sumM_succ {ps : List Prt} {k : Nat} {p : Prt} (hp : ps[k]? = some p) : sumM (ps.take (k + 1)) = sumM (ps.take k) + p.m := by
  unfold sumM
  rw [List.take_add_one, hp]
  simp
end Go.Proofs.Ytlegilbiapbfkaa

/- The laws' comparisons of lists: sameInts, sameParts, sameInputs. Printed by gen/same.py. -/
namespace Go.Proofs.Ytlegilbiapbfkaa
open Go.ChangeShapes Go.WideShapes Go.ChangeAt Go.RowKit
set_option maxRecDepth 100000 in
theorem sameInts_any (A A' : Option Addr) (n n' c c' : Nat) (l l' : List Int) (w : World) (h : Sl w 1 encInt A n l) (h' : Sl w 1 encInt A' n' l') (hn : n ≤ 2097152) (hn' : n' ≤ 2097152) :
    Calls Sq.prog 16 #[.slice A n c, .slice A' n' c'] w fun e w' => e = .returned (.bool (eqL eqInt_ l l')) ∧ Below w.heap.size w w' := by
  by_cases hnn : n = n'
  · subst hnn
    go_enter Sq.func16, Sq.ntmps16
    go_wp2
    go_loopw [5] (fun i wr => ∃ k : Nat, k ≤ n ∧ i = .int .i64 k ∧ l.take k = l'.take k ∧ Below w.heap.size w wr) (fun i _ => n - (intOf i).toNat)
    case atStart => exact ⟨0, Nat.zero_le _, rfl, rfl, Below.refl _ _⟩
    case round =>
      obtain ⟨k, hk, rfl, ht, hb⟩ := hrel
      by_cases hlt : k < n
      · obtain ⟨b, off, x, rfl, hbl, hx, hc⟩ := (h.below hb).at_ hlt
        obtain ⟨b', off', x', rfl, hbl', hx', hc'⟩ := (h'.below hb).at_ hlt
        have q0 := int_at hc
        have r0 := int_at hc'
        have hlti : (k : Int) < (n : Int) := by omega
        have Ht := Lib.hid ht; clear ht
        have Hx := Lib.hid hx; clear hx
        have Hx' := Lib.hid hx'; clear hx'
        clear h h' hc hc'
        cases hq : (x != x') with
        | true =>
          go_wp2
          go_quiet (fail)
          go_wp2
          go_ret
          exact ⟨ret_bool (eqL_ne eqInt_iff Hx.out Hx'.out (by simpa [eqInt_] using hq)).symm, by repeat (first | exact hb | refine below_drewN ?_ _)⟩
        | false =>
          go_wp2
          go_quiet (fail)
          go_wp2
          go_roundw
          case rel => exact ⟨k + 1, by omega, by go_num, take_succ_eq Hx.out Hx'.out Ht.out (by simpa using hq), by repeat (first | exact hb | refine below_drewN ?_ _)⟩
          case measure => simp [intOf]; omega
      · have hkn : k = n := by omega
        have H := Lib.hid hkn; clear hkn
        go_wp2
        go_ret
        exact ⟨ret_bool (eqL_all eqInt_iff (by rw [← H.out]; exact ht) h.1 h'.1).symm, hb⟩
  · have hnb : ((n : Int) != (n' : Int)) = true := by rw [bne_iff_ne]; omega
    go_enter Sq.func16, Sq.ntmps16
    go_wp2
    go_ret
    exact ⟨ret_bool (eqL_len eqInt_iff (by rw [h.1, h'.1]; exact hnn)).symm, Below.refl _ _⟩
end Go.Proofs.Ytlegilbiapbfkaa
