/- slices.Reverse at []Part: a row of the call's own is turned round. -/
import Derived.Test.YtkendoffknjpiaaPrts
import Derived.Lib.SlicesMore
namespace Go.Proofs.Ytkendoffknjpiaa
open Go.ChangeShapes Go.WideShapes Go.ChangeAt Go.RowKit
theorem setAll_right (a : List Value) : ∀ (vs b : List Value) (p : Nat), setAll (a ++ b) (a.length + p) vs = a ++ setAll b p vs
  | [], _, _ => rfl
  | v :: vs, b, p => by
    rw [setAll, setAll, List.set_append_right _ _ (by omega), Nat.add_sub_cancel_left, Nat.add_assoc]
    exact setAll_right a vs _ _
theorem setAll_front : ∀ (vs a c b : List Value), a.length = vs.length → setAll (c ++ (a ++ b)) c.length vs = c ++ (vs ++ b)
  | [], a, c, b, h => by cases a with
    | nil => rfl
    | cons => simp at h
  | v :: vs, [], c, b, h => by simp at h
  | v :: vs, x :: a, c, b, h => by
    rw [setAll, List.set_append_right _ _ (Nat.le_refl _), Nat.sub_self]
    have := setAll_front vs a (c ++ [v]) b (by simpa using h)
    simpa using this
theorem setAll_elem {α : Type} {enc : α → List Value} {sz : Nat} (he : ∀ x, (enc x).length = sz) : ∀ (l : List α) (k : Nat) (y : α), k < l.length → setAll (l.flatMap enc) (k * sz) (enc y) = (l.set k y).flatMap enc
  | [], k, y, h => by simp at h
  | x :: l, 0, y, _ => by
    have := setAll_front (enc y) (enc x) [] (l.flatMap enc) (by rw [he, he])
    simpa using this
  | x :: l, k + 1, y, h => by
    have h1 := setAll_right (enc x) (enc y) (l.flatMap enc) (k * sz)
    rw [he] at h1
    simp only [List.flatMap_cons, List.set_cons_succ]
    rw [show (k + 1) * sz = sz + k * sz by rw [Nat.add_mul, Nat.one_mul, Nat.add_comm], h1, setAll_elem he l k y (by simpa using h)]
/-- One element of an own slice is written. -/
theorem Own.put {α : Type} {enc : α → List Value} {sz : Nat} (he : ∀ x, (enc x).length = sz) {w : World} {B : Nat} {T : TypeId} {g n cap : Nat} {l : List α} (h : Own w B T sz enc (.slice (some ⟨g, 0, none⟩) n cap) l) (k : Nat) (hk : k < l.length) (y : α) :
    Own (putAll w g (k * sz) (enc y)) B T sz enc (.slice (some ⟨g, 0, none⟩) n cap) (l.set k y) ∧ w.grownBy (putAll w g (k * sz) (enc y)) (some g) := by
  obtain ⟨A', c', e, _⟩ := h.form
  have hn : n = l.length := by injection e
  subst hn
  obtain ⟨h1, h2⟩ := ownsRow_putAll (enc y) _ (k * sz) w h
  rw [setAll_elem he l k y hk] at h1
  refine ⟨?_, h2⟩
  unfold Own
  rw [List.length_set]
  exact h1
/-- Reverse has turned i elements at either end. -/
def RevAt {α : Type} (l l' : List α) (i : Nat) : Prop := l'.length = l.length ∧ ∀ m, m < l.length → l'[m]? = if m < i ∨ l.length < m + 1 + i then l[l.length - 1 - m]? else l[m]?
theorem RevAt.zero {α : Type} (l : List α) : RevAt l l 0 := ⟨rfl, fun m hm => by rw [if_neg (by omega)]⟩
theorem RevAt.step {α : Type} {l l' : List α} {i j : Nat} {x y : α} (h : RevAt l l' i) (hj : i + j + 1 = l.length) (hij : i < j) (hx : l'[i]? = some x) (hy : l'[j]? = some y) : RevAt l ((l'.set i y).set j x) (i + 1) := by
  refine ⟨by simp [h.1], fun m hm => ?_⟩
  have h0 := h.1
  by_cases h1 : m = j
  · subst h1
    rw [List.getElem?_set_self (by simp; omega), if_pos (by omega), ← hx, h.2 i (by omega), if_neg (by omega)]
    congr 1
    omega
  · rw [List.getElem?_set_ne (fun e => h1 e.symm)]
    by_cases h2 : m = i
    · subst h2
      rw [List.getElem?_set_self (by omega), if_pos (by omega), ← hy, h.2 j (by omega), if_neg (by omega)]
      congr 1
      omega
    · rw [List.getElem?_set_ne (fun e => h2 e.symm), h.2 m hm]
      by_cases h3 : m < i ∨ l.length < m + 1 + i
      · rw [if_pos h3, if_pos (by omega)]
      · rw [if_neg h3, if_neg (by omega)]
theorem RevAt.done {α : Type} {l l' : List α} {i : Nat} (h : RevAt l l' i) (hi : l.length ≤ 2 * i + 1) : l' = l.reverse := by
  apply List.ext_getElem?
  intro m
  by_cases hm : m < l.length
  · rw [h.2 m hm, List.getElem?_reverse hm]
    split
    · rfl
    · congr 1; omega
  · rw [List.getElem?_eq_none (by rw [h.1]; omega), List.getElem?_eq_none (by simp; omega)]
set_option maxRecDepth 100000 in
theorem reversePart_any (g cap n : Nat) (l : List Prt) (B : Nat) (w : World) (h : Own w B 63 2 encPrt (.slice (some ⟨g, 0, none⟩) n cap) l) (hn : n ≤ 1000000) :
    Calls Try.prog 88 #[.slice (some ⟨g, 0, none⟩) n cap] w fun e w' => e = .returned (.tuple #[]) ∧ Own w' B 63 2 encPrt (.slice (some ⟨g, 0, none⟩) n cap) l.reverse ∧ w.grownBy w' (some g) := by
  have hln : n = l.length := by
    obtain ⟨A', c', e, _⟩ := h.form
    injection e
  have Hln := Lib.hid hln
  clear hln
  go_enter Try.func88, Try.ntmps88
  go_wp2
  go_loopw [2, 3] (fun i j wr => ∃ (k : Nat) (jz : Int) (l' : List Prt), i = .int .i64 k ∧ j = .int .i64 jz ∧ jz = n - 1 - k ∧ 2 * k ≤ n + 1 ∧ RevAt l l' k ∧ Own wr B 63 2 encPrt (.slice (some ⟨g, 0, none⟩) n cap) l' ∧ w.grownBy wr (some g)) (fun i _ _ => n - (intOf i).toNat)
  case atStart => exact ⟨0, (n : Int) - 1, l, rfl, rfl, by omega, by omega, RevAt.zero l, h, grownBy_refl _ _⟩
  case round =>
    obtain ⟨k, jz, l', rfl, rfl, hjz, hk2, hR, ho, hg⟩ := hrel
    have hln := Hln.out
    by_cases hlt : (k : Int) < jz
    · obtain ⟨jn, rfl⟩ : ∃ jn : Nat, jz = jn := ⟨jz.toNat, by omega⟩
      have hlen' := hR.1
      obtain ⟨x, hx⟩ : ∃ x, l'[k]? = some x := ⟨_, List.getElem?_eq_getElem (by omega)⟩
      obtain ⟨y, hy⟩ : ∃ y, l'[jn]? = some y := ⟨_, List.getElem?_eq_getElem (by omega)⟩
      have hR2 := hR.step (by omega) (by omega) hx hy
      obtain ⟨ho1, hg1⟩ := ho.put encPrt_len k (by omega) y
      obtain ⟨ho2, hg2⟩ := ho1.put encPrt_len jn (by simp; omega) x
      have h0 : wr.ownsRow B 63 2 (.slice (some ⟨g, 0, none⟩) n cap) n (l'.flatMap encPrt) := by
        have := ho; unfold Own at this; rw [hlen', ← hln] at this; exact this
      have c0 : wr.cell? ⟨g, k * 2, none⟩ = some (.int .i64 x.c) := by
        rw [h0.cellAt _ (by omega)]
        exact flatMap_at encPrt_len _ k x 0 (.int .i64 x.c) hx rfl
      have c1 : wr.cell? ⟨g, k * 2 + 1, none⟩ = some (.int .i64 x.m) := by
        rw [h0.cellAt _ (by omega)]
        exact flatMap_at encPrt_len _ k x 1 (.int .i64 x.m) hx rfl
      have c2 : wr.cell? ⟨g, jn * 2, none⟩ = some (.int .i64 y.c) := by
        rw [h0.cellAt _ (by omega)]
        exact flatMap_at encPrt_len _ jn y 0 (.int .i64 y.c) hy rfl
      have c3 : wr.cell? ⟨g, jn * 2 + 1, none⟩ = some (.int .i64 y.m) := by
        rw [h0.cellAt _ (by omega)]
        exact flatMap_at encPrt_len _ jn y 1 (.int .i64 y.m) hy rfl
      have f0 := h0.frozenAt (k * 2)
      have f1 := h0.frozenAt (k * 2 + 1)
      have f2 := h0.frozenAt (jn * 2)
      have f3 := h0.frozenAt (jn * 2 + 1)
      have hg3 := grownBy_trans hg (grownBy_trans hg1 hg2)
      clear hx hy hR h0 h ho ho1 hg1 hg2 hg
      have HO := Lib.hid ho2
      have HG := Lib.hid hg3
      have HR := Lib.hid hR2
      have hjn : jn < n := by omega
      have hkn : k < jn := by omega
      have Hj := Lib.hid hjz
      have Hl := Lib.hid hlen'
      clear ho2 hg3 hR2 hjz hln hlen' hlt
      go_wp2_with fail
      go_region
      go_wp2
      case roundEnd =>
        go_roundw
        case rel => exact ⟨k + 1, (jn : Int) - 1, (l'.set k y).set jn x, by go_num, by go_num, by have := Hj.out; omega, by have := Hj.out; omega, HR.out, HO.out, ⟨HG.out.os, HG.out.tape, HG.out.output, HG.out.size, HG.out.block⟩⟩
        case measure => simp [intOf]; omega
    · have hl' := hR.done (by omega)
      subst hl'
      clear hln
      go_wp2
      go_end0
      exact ⟨rfl, ho, hg⟩
end Go.Proofs.Ytkendoffknjpiaa
