/- Lemmas: Prts PrtsR PrtsI PrtsJ RInp Rept RInpI PLaw Same. -/
import Derived.Test.YtlegilbiapbfkaaGreatZBase
import Derived.Deep.DeepMust
import Derived.Lib.SlicesMore
import Derived.Deep.LoopGhost
import Derived.Shelf.Bits.Mul64
import Derived.Laws.CopyOwn
import Derived.Deep.RegionLaw
/- Parts of inputs: the reference's (a slice that grows at its end), by its contract. -/
namespace Go.Proofs.YtlegilbiapbfkaaGreat
open Go.ChangeShapes Go.WideShapes Go.ChangeAt Go.RowKit
end Go.Proofs.YtlegilbiapbfkaaGreat
/- slices.Reverse at []Part: a row of the call's own is turned round. -/
namespace Go.Proofs.YtlegilbiapbfkaaGreat
open Go.ChangeShapes Go.WideShapes Go.ChangeAt Go.RowKit
theorem setAll_right (a : List Value) : ∀ (vs b : List Value) (p : Nat), setAll (a ++ b) (a.length + p) vs = a ++ setAll b p vs
  | [], _, _ => rfl
  | v :: vs, b, p => by
    rw [setAll, setAll, List.set_append_right _ _ (by omega), Nat.add_sub_cancel_left, Nat.add_assoc]
    exact setAll_right a vs _ _
theorem setAll_front : ∀ (vs a c b : List Value), a.length = vs.length → setAll (c ++ (a ++ b)) c.length vs = c ++ (vs ++ b)
  | [], a, c, b, h => by cases a with
    | nil => rfl
    | cons => simp at h
  | v :: vs, [], c, b, h => by simp at h
  | v :: vs, x :: a, c, b, h => by
    rw [setAll, List.set_append_right _ _ (Nat.le_refl _), Nat.sub_self]
    have := setAll_front vs a (c ++ [v]) b (by simpa using h)
    simpa using this
theorem setAll_elem {α : Type} {enc : α → List Value} {sz : Nat} (he : ∀ x, (enc x).length = sz) : ∀ (l : List α) (k : Nat) (y : α), k < l.length → setAll (l.flatMap enc) (k * sz) (enc y) = (l.set k y).flatMap enc
  | [], k, y, h => by simp at h
  | x :: l, 0, y, _ => by
    have := setAll_front (enc y) (enc x) [] (l.flatMap enc) (by rw [he, he])
    simpa using this
  | x :: l, k + 1, y, h => by
    have h1 := setAll_right (enc x) (enc y) (l.flatMap enc) (k * sz)
    rw [he] at h1
    simp only [List.flatMap_cons, List.set_cons_succ]
    rw [show (k + 1) * sz = sz + k * sz by rw [Nat.add_mul, Nat.one_mul, Nat.add_comm], h1, setAll_elem he l k y (by simpa using h)]
theorem Own.put {α : Type} {enc : α → List Value} {sz : Nat} (he : ∀ x, (enc x).length = sz) {w : World} {B : Nat} {T : TypeId} {g n cap : Nat} {l : List α} (h : Own w B T sz enc (.slice (some ⟨g, 0, none⟩) n cap) l) (k : Nat) (hk : k < l.length) (y : α) :
    Own (putAll w g (k * sz) (enc y)) B T sz enc (.slice (some ⟨g, 0, none⟩) n cap) (l.set k y) ∧ w.grownBy (putAll w g (k * sz) (enc y)) (some g) := by
  obtain ⟨A', c', e, _⟩ := h.form
  have hn : n = l.length := by injection e
  subst hn
  obtain ⟨h1, h2⟩ := ownsRow_putAll (enc y) _ (k * sz) w h
  rw [setAll_elem he l k y hk] at h1
  refine ⟨?_, h2⟩
  unfold Own
  rw [List.length_set]
  exact h1
def RevAt {α : Type} (l l' : List α) (i : Nat) : Prop := l'.length = l.length ∧ ∀ m, m < l.length → l'[m]? = if m < i ∨ l.length < m + 1 + i then l[l.length - 1 - m]? else l[m]?
theorem RevAt.zero {α : Type} (l : List α) : RevAt l l 0 := ⟨rfl, fun m hm => by rw [if_neg (by omega)]⟩
theorem RevAt.step {α : Type} {l l' : List α} {i j : Nat} {x y : α} (h : RevAt l l' i) (hj : i + j + 1 = l.length) (hij : i < j) (hx : l'[i]? = some x) (hy : l'[j]? = some y) : RevAt l ((l'.set i y).set j x) (i + 1) := by
  refine ⟨by simp [h.1], fun m hm => ?_⟩
  have h0 := h.1
  by_cases h1 : m = j
  · subst h1
    rw [List.getElem?_set_self (by simp; omega), if_pos (by omega), ← hx, h.2 i (by omega), if_neg (by omega)]
    congr 1
    omega
  · rw [List.getElem?_set_ne (fun e => h1 e.symm)]
    by_cases h2 : m = i
    · subst h2
      rw [List.getElem?_set_self (by omega), if_pos (by omega), ← hy, h.2 j (by omega), if_neg (by omega)]
      congr 1
      omega
    · rw [List.getElem?_set_ne (fun e => h2 e.symm), h.2 m hm]
      by_cases h3 : m < i ∨ l.length < m + 1 + i
      · rw [if_pos h3, if_pos (by omega)]
      · rw [if_neg h3, if_neg (by omega)]
theorem RevAt.done {α : Type} {l l' : List α} {i : Nat} (h : RevAt l l' i) (hi : l.length ≤ 2 * i + 1) : l' = l.reverse := by
  apply List.ext_getElem?
  intro m
  by_cases hm : m < l.length
  · rw [h.2 m hm, List.getElem?_reverse hm]
    split
    · rfl
    · congr 1; omega
  · rw [List.getElem?_eq_none (by rw [h.1]; omega), List.getElem?_eq_none (by simp; omega)]
end Go.Proofs.YtlegilbiapbfkaaGreat
/- Parts of inputs: the program's linked list, by its contract. -/
namespace Go.Proofs.YtlegilbiapbfkaaGreat
open Go.ChangeShapes Go.WideShapes Go.ChangeAt Go.RowKit
end Go.Proofs.YtlegilbiapbfkaaGreat
/- ReplayParts: the reference's and the program's. -/
namespace Go.Proofs.YtlegilbiapbfkaaGreat
open Go.ChangeShapes Go.WideShapes Go.ChangeAt Go.RowKit
end Go.Proofs.YtlegilbiapbfkaaGreat
/- ReplayInputs: the plain function; the reference's by its contract. -/
namespace Go.Proofs.YtlegilbiapbfkaaGreat
open Go.ChangeShapes Go.WideShapes Go.ChangeAt Go.RowKit
theorem own_nil_inp (w : World) (B N : Nat) (T : TypeId) (hB : B ≤ w.heap.size) (hN : w.heap.size = N) : Own (w.alloc (.cells #[] T)) B T 3 encInp (.slice (some ⟨N, 0, none⟩) 0 0) [] := by
  subst hN
  exact World.ownsRow_lit (base := B) (size := 3) w #[] 0 hB (by decide) rfl
theorem Own.drewN {α : Type} {w : World} {B : Nat} {T : TypeId} {sz : Nat} {enc : α → List Value} {v : Value} {l : List α} (h : Own w B T sz enc v l) (n : Nat) : Own (w.drewN n) B T sz enc v l := h
theorem Sq.infoInp : (Sq.prog.info? 93).map (fun i => (i.zero, i.size, i.bytes)) = some (some (.agg #[.int .i64 0, .int .i64 0, .bool false]), 3, 24) := by kernel_rfl
end Go.Proofs.YtlegilbiapbfkaaGreat
/- slices.Repeat of one input; math/bits.Mul. -/
namespace Go.Proofs.YtlegilbiapbfkaaGreat
open Go.ChangeShapes Go.WideShapes Go.ChangeAt Go.RowKit
end Go.Proofs.YtlegilbiapbfkaaGreat
/- ReplayInputs: the program's by its contract. Printed by gen/rinpi.py. -/
namespace Go.Proofs.YtlegilbiapbfkaaGreat
open Go.ChangeShapes Go.WideShapes Go.ChangeAt Go.RowKit
end Go.Proofs.YtlegilbiapbfkaaGreat
/- Parts and inputs: the plain laws. No program is named here. -/
namespace Go.Proofs.YtlegilbiapbfkaaGreat
open Go.RowKit
end Go.Proofs.YtlegilbiapbfkaaGreat
/- The laws' comparisons of lists: sameInts, sameParts, sameInputs. Printed by gen/same.py. -/
namespace Go.Proofs.YtlegilbiapbfkaaGreat
open Go.ChangeShapes Go.WideShapes Go.ChangeAt Go.RowKit
set_option maxRecDepth 100000 in
theorem sameInts_any (A A' : Option Addr) (n n' c c' : Nat) (l l' : List Int) (w : World) (h : Sl w 1 encInt A n l) (h' : Sl w 1 encInt A' n' l') (hn : n ≤ 2097152) (hn' : n' ≤ 2097152) :
    Calls Sq.prog 25 #[.slice A n c, .slice A' n' c'] w fun e w' => e = .returned (.bool (eqL eqInt_ l l')) ∧ Below w.heap.size w w' := by
  by_cases hnn : n = n'
  · subst hnn
    go_enter Sq.func25, Sq.ntmps25
    go_wp2
    go_loopw [5] (fun i wr => ∃ k : Nat, k ≤ n ∧ i = .int .i64 k ∧ l.take k = l'.take k ∧ Below w.heap.size w wr) (fun i _ => n - (intOf i).toNat)
    case atStart => exact ⟨0, Nat.zero_le _, rfl, rfl, Below.refl _ _⟩
    case round =>
      obtain ⟨k, hk, rfl, ht, hb⟩ := hrel
      by_cases hlt : k < n
      · obtain ⟨b, off, x, rfl, hbl, hx, hc⟩ := (h.below hb).at_ hlt
        obtain ⟨b', off', x', rfl, hbl', hx', hc'⟩ := (h'.below hb).at_ hlt
        have q0 := int_at hc
        have r0 := int_at hc'
        have hlti : (k : Int) < (n : Int) := by omega
        have Ht := Lib.hid ht; clear ht
        have Hx := Lib.hid hx; clear hx
        have Hx' := Lib.hid hx'; clear hx'
        clear h h' hc hc'
        cases hq : (x != x') with
        | true =>
          go_wp2
          go_quiet (fail)
          go_wp2
          go_ret
          exact ⟨ret_bool (eqL_ne eqInt_iff Hx.out Hx'.out (by simpa [eqInt_] using hq)).symm, by repeat (first | exact hb | refine below_drewN ?_ _)⟩
        | false =>
          go_wp2
          go_quiet (fail)
          go_wp2
          go_roundw
          case rel => exact ⟨k + 1, by omega, by go_num, take_succ_eq Hx.out Hx'.out Ht.out (by simpa using hq), by repeat (first | exact hb | refine below_drewN ?_ _)⟩
          case measure => simp [intOf]; omega
      · have hkn : k = n := by omega
        have H := Lib.hid hkn; clear hkn
        go_wp2
        go_ret
        exact ⟨ret_bool (eqL_all eqInt_iff (by rw [← H.out]; exact ht) h.1 h'.1).symm, hb⟩
  · have hnb : ((n : Int) != (n' : Int)) = true := by rw [bne_iff_ne]; omega
    go_enter Sq.func25, Sq.ntmps25
    go_wp2
    go_ret
    exact ⟨ret_bool (eqL_len eqInt_iff (by rw [h.1, h'.1]; exact hnn)).symm, Below.refl _ _⟩
end Go.Proofs.YtlegilbiapbfkaaGreat
