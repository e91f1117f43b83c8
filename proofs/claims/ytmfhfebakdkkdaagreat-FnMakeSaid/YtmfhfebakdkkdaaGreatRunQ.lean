/- Small laws for the laws of runs. (Round B) -/
import Derived.Test.YtmfhfebakdkkdaaGreatSpecN
import Derived.Test.YtmfhfebakdkkdaaGreatZImpB
import Derived.Test.YtmfhfebakdkkdaaGreatZDrawL
namespace Go.Proofs.YtmfhfebakdkkdaaGreat
open Go.ChangeShapes Go.WideShapes Go.ChangeAt Go.RowKit
theorem toOk_iff {l : Lev} {ins : List Inp} {n : Int} : toOk l ins n = true ↔ runOk l ins = true ∧ 0 ≤ n ∧ n ≤ ins.length := by
  simp only [toOk, Bool.and_eq_true, inR_iff]
theorem toOk_nat {l : Lev} {ins : List Inp} {n : Nat} (hr : runOk l ins = true) (hn : n ≤ ins.length) : toOk l ins n = true := toOk_iff.2 ⟨hr, by omega, by omega⟩
theorem toR_nat {l : Lev} {ins : List Inp} {n : Nat} (hr : runOk l ins = true) (hn : n ≤ ins.length) : toR l ins n = runTo l ins n := by
  unfold toR; rw [toOk_nat hr hn, if_pos rfl, Int.toNat_natCast]
theorem toOk_no {l : Lev} {ins : List Inp} {n : Int} (hr : runOk l ins = false) : toOk l ins n = false := by unfold toOk; rw [hr]; rfl
theorem runTo_app {l : Lev} {ins more : List Inp} {n : Nat} (h : n ≤ ins.length) : runTo l (ins ++ more) n = runTo l ins n := by
  unfold runTo; rw [List.take_append_of_le_length h]
theorem runTo_pre {l : Lev} {ins more : List Inp} {n : Nat} (h : n ≤ ins.length) : runTo l (ins.take n ++ more) n = runTo l ins n := by
  rw [runTo_app (by rw [List.length_take]; omega), runTo_take (Nat.le_refl _)]
/-- Behind a prefix of a run: if the longer list is a run, its state is the same. -/
theorem toR_pre {l : Lev} {ins more : List Inp} {n : Nat} (hn : n ≤ ins.length) (ho : toOk l (ins.take n ++ more) n = true) : toR l (ins.take n ++ more) n = runTo l ins n := by
  rw [toR_nat (toOk_iff.1 ho).1 (by have := (toOk_iff.1 ho).2.2; omega), runTo_pre hn]
theorem pathR_yes {l : Lev} {ins : List Inp} (hr : runOk l ins = true) : (pathR l ins).length = ins.length + 1 := by
  unfold pathR; rw [hr, if_pos rfl, pathTo_len]
theorem pathR_at {l : Lev} {ins : List Inp} {k : Nat} (hr : runOk l ins = true) (hk : k ≤ ins.length) : (pathR l ins)[k]? = some (runTo l ins k).p := by
  unfold pathR
  rw [hr, if_pos rfl]
  unfold pathTo
  rw [List.getElem?_map, List.getElem?_range (by omega)]
  rfl
theorem pathR_no {l : Lev} {ins : List Inp} (hr : runOk l ins = false) : pathR l ins = [] := by
  unfold pathR; rw [hr]; rfl
theorem Drawn.alloc {l : Lev} {A A' : Option Addr} {c c' : Nat} {ins : List Inp} {A2 : Option Addr} {c2 : Nat} {w : World} (h : Drawn l A A' c c' ins A2 c2 w) (o : Obj) : Drawn l A A' c c' ins A2 c2 (w.alloc o) := h.below (below_alloc (Below.refl _ _) o)
theorem Drawn.drew {l : Lev} {A A' : Option Addr} {c c' : Nat} {ins : List Inp} {A2 : Option Addr} {c2 : Nat} {w : World} (h : Drawn l A A' c c' ins A2 c2 w) : Drawn l A A' c c' ins A2 c2 w.drew := h.below (below_drew (Below.refl _ _))
theorem Sl.alloc' {α : Type} {w : World} {sz : Nat} {enc : α → List Value} {A : Option Addr} {n : Nat} {l : List α} (h : Sl w sz enc A n l) (o : Obj) : Sl (w.alloc o) sz enc A n l := h.below (below_alloc (Below.refl _ _) o)
theorem Sl.drew' {α : Type} {w : World} {sz : Nat} {enc : α → List Value} {A : Option Addr} {n : Nat} {l : List α} (h : Sl w sz enc A n l) : Sl w.drew sz enc A n l := h
theorem Sl.takeN {α : Type} {w : World} {sz : Nat} {enc : α → List Value} {A : Option Addr} {n m : Nat} {l : List α} (h : Sl w sz enc A n l) (hm : m ≤ n) : Sl w sz enc A m (l.take m) :=
  ⟨by rw [List.length_take, h.len]; omega, fun hp => by
    obtain ⟨b, off, e, hlt, hc⟩ := h.2 (by omega)
    exact ⟨b, off, e, hlt, fun k x hk => hc k x (by rw [List.getElem?_take] at hk; split at hk; exact hk; cases hk)⟩⟩
theorem len_take {α : Type} {l : List α} {m : Nat} (h : m ≤ l.length) : (l.take m).length = m := by rw [List.length_take]; omega
theorem ownI_nil (w : World) (B N : Nat) (T : TypeId) (hB : B ≤ w.heap.size) (hN : w.heap.size = N) : Own (w.alloc (.cells #[] T)) B T 3 encInp (.slice (some ⟨N, 0, none⟩) 0 0) [] :=
  hN ▸ World.ownsRow_lit (base := B) (size := 3) w #[] 0 hB (by decide) rfl
theorem ownI_one (w : World) (B N : Nat) (T : TypeId) (x : Inp) (hB : B ≤ w.heap.size) (hN : w.heap.size = N) : Own (w.alloc (.cells #[.int .i64 x.s, .int .i64 x.p, .bool x.z] T)) B T 3 encInp (.slice (some ⟨N, 0, none⟩) 1 1) [x] :=
  hN ▸ World.ownsRow_lit (base := B) (size := 3) w #[.int .i64 x.s, .int .i64 x.p, .bool x.z] 1 hB (by decide) rfl
theorem runOk_lev {l : Lev} {ins : List Inp} (h : runOk l ins = true) : levOk l = true := (runOk_iff.1 h).1
theorem runOk_no2 {l : Lev} {ins : List Inp} (h : runOk l ins = false) : 0 ≤ (if levOk l then legal l ins else 0) := by
  unfold runOk at h
  split
  · rename_i hl
    rw [hl] at h
    simp at h
    exact h
  · omega
theorem runOk_yes2 {l : Lev} {ins : List Inp} (h : runOk l ins = true) : (if levOk l then legal l ins else 0) < 0 := by
  obtain ⟨h1, h2⟩ := runOk_iff.1 h
  rw [h1, if_pos rfl]; exact h2
theorem keepLv {W w' : World} {g : Nat} {t : TypeId} {v0 v1 v2 v3 v4 v5 v6 v7 v8 v9 v10 : Value} (h : Bk W g t #[v0, v1, v2, v3, v4, v5, v6, v7, v8, v9, v10]) (hb : Below W.heap.size W w') :
    w'.cell? ⟨g, 0, none⟩ = some v0 ∧ w'.cell? ⟨g, 1, none⟩ = some v1 ∧ w'.cell? ⟨g, 2, none⟩ = some v2 ∧ w'.cell? ⟨g, 3, none⟩ = some v3 ∧ w'.cell? ⟨g, 4, none⟩ = some v4 ∧ w'.cell? ⟨g, 5, none⟩ = some v5 ∧ w'.cell? ⟨g, 6, none⟩ = some v6 ∧ w'.cell? ⟨g, 7, none⟩ = some v7 ∧ w'.cell? ⟨g, 8, none⟩ = some v8 ∧ w'.cell? ⟨g, 9, none⟩ = some v9 ∧ w'.cell? ⟨g, 10, none⟩ = some v10 := (h.later hb).c11.1
theorem keepS9 {W w' : World} {g : Nat} {t : TypeId} {v0 v1 v2 v3 v4 v5 v6 v7 v8 : Value} (h : Bk W g t #[v0, v1, v2, v3, v4, v5, v6, v7, v8]) (hb : Below W.heap.size W w') :
    w'.cell? ⟨g, 0, none⟩ = some v0 ∧ w'.cell? ⟨g, 1, none⟩ = some v1 ∧ w'.cell? ⟨g, 2, none⟩ = some v2 ∧ w'.cell? ⟨g, 3, none⟩ = some v3 ∧ w'.cell? ⟨g, 4, none⟩ = some v4 ∧ w'.cell? ⟨g, 5, none⟩ = some v5 ∧ w'.cell? ⟨g, 6, none⟩ = some v6 ∧ w'.cell? ⟨g, 7, none⟩ = some v7 ∧ w'.cell? ⟨g, 8, none⟩ = some v8 := (h.later hb).c9.1
theorem keepC2 {W w' : World} {a b : Addr} {u v : Value} (h : W.cell? a = some u) (h2 : W.cell? b = some v) (ha : a.block < W.heap.size) (hb2 : b.block < W.heap.size) (hb : Below W.heap.size W w') : w'.cell? a = some u ∧ w'.cell? b = some v := ⟨(hb.cell ha).trans h, (hb.cell hb2).trans h2⟩
theorem keepC3 {W w' : World} {a b c : Addr} {u v x : Value} (h : W.cell? a = some u) (h2 : W.cell? b = some v) (h3 : W.cell? c = some x) (ha : a.block < W.heap.size) (hb2 : b.block < W.heap.size) (hc : c.block < W.heap.size) (hb : Below W.heap.size W w') : w'.cell? a = some u ∧ w'.cell? b = some v ∧ w'.cell? c = some x := ⟨(hb.cell ha).trans h, (hb.cell hb2).trans h2, (hb.cell hc).trans h3⟩
end Go.Proofs.YtmfhfebakdkkdaaGreat
