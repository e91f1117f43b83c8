/- append onto a slice of the call's own, from whatever slice reads as a list: one law; a slice literal's list. -/
import Derived.Test.YtmfhfebakdkkdaaPlain
import Derived.Laws.AppendOwnNone
import Derived.OwnWalk
namespace Go.Proofs.Ytmfhfebakdkkdaa
open Go.ChangeShapes Go.WideShapes Go.ChangeAt Go.RowKit
theorem Sl.cells {α : Type} {w : World} {sz : Nat} {enc : α → List Value} {ad : Addr} {n : Nat} {l : List α} (he : ∀ x, (enc x).length = sz) (hsz : 0 < sz) (h : Sl w sz enc (some ad) n l) :
    ∀ j u, (l.flatMap enc)[j]? = some u → w.cell? (ad.add j) = some u := by
  intro j u hu
  have hj : j < l.length * sz := by
    have := (List.getElem?_eq_some_iff.1 hu).1
    rwa [flatMap_len he] at this
  have hk : j / sz < l.length := Nat.div_lt_of_lt_mul (by rwa [Nat.mul_comm] at hj)
  have hi : j % sz < sz := Nat.mod_lt _ hsz
  obtain ⟨b, off, x, e, hb, hx, hc⟩ := h.at_ (k := j / sz) (by rw [← h.len]; exact hk)
  injection e with e
  subst e
  have hv : (enc x)[j % sz]? = some ((enc x)[j % sz]'(by rw [he]; exact hi)) := List.getElem?_eq_getElem _
  have h1 := flatMap_at he l (j / sz) x (j % sz) _ hx hv
  have hjj : j / sz * sz + j % sz = j := by rw [Nat.mul_comm]; exact Nat.div_add_mod j sz
  rw [hjj, hu] at h1
  have h2 := hc _ _ hv
  rw [add_plain, ← hjj, ← Nat.add_assoc, h2, ← h1]
theorem wp_appS {P : Program} {w : World} {ops : Array Oper} {rest : List Oper} {o : Oper} {a : Act} {Q : Exit → Act → World → Prop} {α : Type} {enc : α → List Value} (hgd : o.guard = none) (s x : Operand) (t : TypeId)
    (ho : o.op = .call { callee := .builtin .append, args := #[s, x], argTypes := #[t, t] })
    (base : Nat) (e : TypeId) (i : TypeInfo) (z : Value) (size bytes : Nat) (ht : P.underlying t = some (.slice e)) (hi : P.info? e = some i) (hz : i.zero = some z)
    (hsize : i.size = size) (hby : i.bytes = bytes) (hzs : z.cells.size = size) (hsz : 0 < size) (he : ∀ y, (enc y).length = size) (hone : ∀ y, ∀ u ∈ enc y, u.oneCell' = true)
    (v : Value) (l l2 : List α) (hs : a.eval s = v) (hown : Own w base e size enc v l) (A : Option Addr) (m c : Nat) (hx : a.eval x = .slice A m c) (hsl : Sl w size enc A m l2) (hA : A = none → c = 0)
    (h63 : l.length + m ≤ maxLen) (hbytes : (l.length + m) * bytes ≤ 140737488355328) (hbase : base ≤ w.heap.size)
    (h : ∀ v' w', Own w' base e size enc v' (l ++ l2) → w.grownBy w' v.ownBlock → wpList P ops Q rest (a.put o.dst v') w') : wpList P ops Q (o :: rest) a w := by
  cases A with
  | none =>
    have hm : m = 0 := by
      rcases Nat.eq_zero_or_pos m with h0 | h0
      · exact h0
      · obtain ⟨b, off, e', _⟩ := hsl.2 h0
        cases e'
    have hl2 : l2 = [] := List.length_eq_zero_iff.1 (hsl.len.trans hm)
    subst hm
    rw [hA rfl] at hx
    refine wpList_append_own_none hgd s x t ho base e i size ht hi v _ _ hs hown hx (h v w ?_ (grownBy_refl _ _))
    rw [hl2, List.append_nil]
    exact hown
  | some ad =>
    have hn : l2.length = m := hsl.len
    refine wpList_append_own w hgd s x t ho base e i z size bytes ht hi hz hsize hby hzs hsz v _ _ hs hown ad m c (l2.flatMap enc) hx (by rw [flatMap_len he, hn]) (hsl.cells he hsz) ?_ h63 hbytes hbase ?_
    · intro u hu
      obtain ⟨y, _, hy⟩ := List.mem_flatMap.1 hu
      exact hone y u hy
    · intro v' w' h1 h2 _
      refine h v' w' ?_ h2
      unfold Own
      rw [List.length_append, hn, List.flatMap_append]
      exact h1
theorem Sl.one {α : Type} {enc : α → List Value} {sz : Nat} (w : World) (x : α) (T : TypeId) (cs : Array Value) (hcs : cs.toList = enc x) : Sl (w.alloc (.cells cs T)) sz enc (some ⟨w.heap.size, 0, none⟩) 1 [x] := by
  refine ⟨rfl, fun _ => ⟨w.heap.size, 0, rfl, by simp, fun k y hk j v hv => ?_⟩⟩
  have hk0 : k = 0 := by
    have := (List.getElem?_eq_some_iff.1 hk).1
    simpa using this
  subst hk0
  simp only [List.getElem?_cons_zero, Option.some.injEq] at hk
  subst hk
  have := (Blk.new w cs T).2 j v (by rw [hcs]; exact hv)
  simpa using this
theorem Own.none_cap {α : Type} {w : World} {B : Nat} {T : TypeId} {sz : Nat} {enc : α → List Value} {A : Option Addr} {n c : Nat} {l : List α} (h : Own w B T sz enc (.slice A n c) l) : A = none → c = 0 := by
  rintro rfl
  rcases h.2 with ⟨e, _⟩ | ⟨g, cap, cur, e, _⟩
  · cases e; rfl
  · cases e
theorem one_int (x : Int) : ∀ u ∈ encInt x, u.oneCell' = true := by intro u hu; simp [encInt] at hu; subst hu; rfl
theorem one_inp (x : Inp) : ∀ u ∈ encInp x, u.oneCell' = true := by intro u hu; simp [encInp] at hu; rcases hu with rfl | rfl | rfl <;> rfl
theorem one_prt (x : Prt) : ∀ u ∈ encPrt x, u.oneCell' = true := by intro u hu; simp [encPrt] at hu; rcases hu with rfl | rfl <;> rfl
end Go.Proofs.Ytmfhfebakdkkdaa
