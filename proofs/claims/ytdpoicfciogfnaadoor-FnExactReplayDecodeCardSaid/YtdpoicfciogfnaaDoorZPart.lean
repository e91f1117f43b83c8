/- Lemmas: Prts PrtsR PrtsI PrtsJ RInp Rept RInpI PLaw Same. -/
import Derived.Test.YtdpoicfciogfnaaDoorZBase
import Derived.Deep.DeepMust
import Derived.Lib.SlicesMore
import Derived.Deep.LoopGhost
import Derived.Shelf.Bits.Mul64
import Derived.Laws.CopyOwn
import Derived.Deep.RegionLaw
/- Parts of inputs: the reference's (a slice that grows at its end), by its contract. -/
namespace Go.Proofs.YtdpoicfciogfnaaDoor
open Go.ChangeShapes Go.WideShapes Go.ChangeAt Go.RowKit
/-- The parts, the last one first, when one more code comes. -/
def bump : List Prt → Int → List Prt
  | [], c => [⟨c, 1⟩]
  | p :: ps, c => if p.c = c then ⟨p.c, p.m + 1⟩ :: ps else ⟨c, 1⟩ :: p :: ps
def rparts (l : List Inp) : List Prt := (l.map code).foldl bump []
def partsOf (l : List Inp) : List Prt := (rparts l).reverse
theorem rparts_take {l : List Inp} {k : Nat} {x : Inp} (hx : l[k]? = some x) : rparts (l.take (k + 1)) = bump (rparts (l.take k)) (code x) := by
  unfold rparts
  rw [List.take_add_one, hx, List.map_append, List.foldl_append]
  rfl
theorem bump_cons (p : Prt) (ps : List Prt) (c : Int) : bump (p :: ps) c = if p.c = c then ⟨p.c, p.m + 1⟩ :: ps else ⟨c, 1⟩ :: p :: ps := rfl
theorem bump_len (R : List Prt) (c : Int) : (bump R c).length ≤ R.length + 1 := by
  cases R with
  | nil => simp [bump]
  | cons p ps => rw [bump_cons]; split <;> simp
def mOk (b : Int) (R : List Prt) : Prop := ∀ p ∈ R, 0 ≤ p.m ∧ p.m ≤ b
theorem bump_m {R : List Prt} {c b : Int} (h : mOk b R) (hb : 0 ≤ b) : mOk (b + 1) (bump R c) := by
  cases R with
  | nil => intro p hp; simp [bump] at hp; subst hp; simp; omega
  | cons q ps =>
    rw [bump_cons]
    split
    · intro p hp
      rcases List.mem_cons.1 hp with rfl | hp
      · have := h q (List.mem_cons_self ..); simp; omega
      · have := h p (List.mem_cons_of_mem _ hp); omega
    · intro p hp
      rcases List.mem_cons.1 hp with rfl | hp
      · simp; omega
      · have := h p hp; omega
theorem rparts_bd (l : List Inp) : ∀ k, (rparts (l.take k)).length ≤ k ∧ mOk k (rparts (l.take k))
  | 0 => by simp [rparts, mOk]
  | k + 1 => by
    obtain ⟨h1, h2⟩ := rparts_bd l k
    cases hx : l[k]? with
    | none => rw [List.take_add_one, hx]; simp only [Option.toList, List.append_nil]; exact ⟨by omega, fun p hp => by have := h2 p hp; omega⟩
    | some x =>
      rw [rparts_take hx]
      exact ⟨by have := bump_len (rparts (l.take k)) (code x); omega, by have := bump_m (c := code x) h2 (by omega); exact fun p hp => by have := this p hp; omega⟩
/-- The last element's second field is written. -/
theorem Own.bumpLast {w : World} {B : Nat} {T : TypeId} {g cap : Nat} {p : Prt} {ps : List Prt} (m : Int) (h : Own w B T 2 encPrt (.slice (some ⟨g, 0, none⟩) (ps.length + 1) cap) (p :: ps).reverse) :
    Own (w.setCell ⟨g, ps.length * 2 + 1, none⟩ (.int .i64 m)) B T 2 encPrt (.slice (some ⟨g, 0, none⟩) (ps.length + 1) cap) (⟨p.c, m⟩ :: ps).reverse ∧ w.grownBy (w.setCell ⟨g, ps.length * 2 + 1, none⟩ (.int .i64 m)) (some g) := by
  have h0 : w.ownsRow B T 2 (.slice (some ⟨g, 0, none⟩) (ps.length + 1) cap) (ps.length + 1) ((p :: ps).reverse.flatMap encPrt) := by
    have := h; unfold Own at this; simpa using this
  obtain ⟨h1, h2⟩ := h0.stored (ps.length * 2 + 1) (.int .i64 m)
  refine ⟨?_, h2⟩
  unfold Own
  have e : ((p :: ps).reverse.flatMap encPrt).set (ps.length * 2 + 1) (.int .i64 m) = (⟨p.c, m⟩ :: ps : List Prt).reverse.flatMap encPrt := by
    have hl := flatMap_len (enc := encPrt) (sz := 2) encPrt_len ps.reverse
    simp only [List.length_reverse] at hl
    simp only [List.reverse_cons, List.flatMap_append, List.flatMap_cons, List.flatMap_nil, List.append_nil]
    rw [List.set_append_right _ _ (by omega), hl, show ps.length * 2 + 1 - ps.length * 2 = 1 by omega]
    rfl
  rw [← e]
  simpa using h1
theorem Own.nil_lit2 (w : World) (B : Nat) (T : TypeId) (hB : B ≤ w.heap.size) : Own (w.alloc (.cells #[] T)) B T 2 encPrt (.slice (some ⟨w.heap.size, 0, none⟩) 0 0) [] :=
  World.ownsRow_lit (base := B) (size := 2) w #[] 0 hB (by decide) rfl
set_option maxRecDepth 100000 in
theorem l23Parts_any (A : Option Addr) (c : Nat) (l : List Inp) (w : World) (hv : inputsOkB l = true) (h : Sl w 3 encInp A l.length l) :
    Calls Tryd.prog 40 #[.slice A l.length c] w (RetOwn 49 2 encPrt (partsOf l) w) := by
  obtain ⟨hv, hn⟩ := inputsOkB_iff.1 hv
  obtain ⟨i0, hi, hz0, hz1, hz2⟩ := info_parts Tryd.infoPart
  have hO0 := Own.nil_lit2 w w.heap.size 49 (Nat.le_refl _)
  have hd0 := below_alloc (Below.refl w.heap.size w) (.cells #[] 49)
  go_enter Tryd.func40, Tryd.ntmps40
  go_wp2
  go_loopw [3, 4] (fun v i wr => ∃ k : Nat, k ≤ l.length ∧ i = .int .i64 k ∧ Own wr w.heap.size 49 2 encPrt v (rparts (l.take k)).reverse ∧ Below w.heap.size w wr) (fun _ i _ => l.length - (intOf i).toNat)
  case atStart => exact ⟨0, Nat.zero_le _, rfl, hO0, hd0⟩
  case round =>
    obtain ⟨k, hk, rfl, ho, hb⟩ := hrel
    clear hO0 hd0
    obtain ⟨hR1, hR2⟩ := rparts_bd l k
    have hsz := hb.size
    by_cases hlt : k < l.length
    · obtain ⟨b, off, x, rfl, hbl, hx, hc⟩ := (h.below hb).at_ hlt
      have q0 : wr.cell? ⟨b, off + k * 3, none⟩ = some (.int .i64 x.s) := hc 0 _ rfl
      have q1 : wr.cell? ⟨b, off + k * 3 + 1, none⟩ = some (.int .i64 x.p) := hc 1 _ rfl
      have q2 : wr.cell? ⟨b, off + k * 3 + 2, none⟩ = some (.bool x.z) := hc 2 _ rfl
      have hxv := hv x (List.mem_of_getElem? hx)
      have Hxv := Lib.hid hxv
      have Hx := Lib.hid (rparts_take hx)
      clear hx hc hxv hv h
      cases hR : rparts (l.take k) with
      | nil =>
        rw [hR] at ho
        rw [hR] at Hx
        obtain ⟨A1, c1, rfl, hc1, hA1⟩ := ho.form
        go_wp2_with (first
          | (go_at_call 62; refine (l12Code_any x _ Hxv.out).mono ?_; rintro e w1 ⟨rfl, hb1⟩)
          | (at_builtin; refine wp_appS rfl _ _ 46 rfl w.heap.size 49 i0 (.agg #[.int .i64 0, .int .i64 0]) 2 16 Tryd.underlying46 hi hz0 hz1 hz2 rfl (by decide) encPrt_len one_prt _ _ [⟨code x, 1⟩] rfl ((ho.later hb1).alloc _) _ 1 1 rfl (Sl.one _ (⟨code x, 1⟩ : Prt) _ _ rfl) (by intro e; cases e) (by unfold maxLen; simp) (by simp) (by have := hb1.size; simp; omega) ?_; intro v' w2 ho2 hg2))
        case roundEnd =>
          have hrow := ho.lt
          have hg3 : (w1.alloc (.cells #[.int .i64 (code x), .int .i64 1] 49)).grownBy w2 (Value.slice A1 ([] : List Prt).reverse.length c1).ownBlock := hg2
          have hbl2 : Below w.heap.size w w2 := ((hb.trans (hb1.mono hsz)).alloc (Nat.le_trans hsz hb1.size) _).grown hg3 (by have := hb1.size; simp; omega) (fun g e => (hrow _ e).1)
          go_roundw
          case rel => exact ⟨k + 1, by omega, by go_num, by rw [Hx.out]; exact ho2, hbl2⟩
          case measure => simp [intOf]; omega
      | cons p ps =>
        rw [hR] at ho hR1 hR2
        rw [hR, bump_cons] at Hx
        obtain ⟨A1, c1, rfl, hc1, hA1⟩ := ho.form
        have hlen : (p :: ps).reverse.length = ps.length + 1 := by simp
        rw [hlen] at ho hc1
        have hm := hR2 p (List.mem_cons_self ..)
        have hlp : ps.length + 1 ≤ 60 := by simp at hR1; omega
        obtain ⟨g, rfl⟩ : ∃ g, A1 = some ⟨g, 0, none⟩ := by
          rcases ho.2 with ⟨e, _⟩ | ⟨g, cap, cur, e, _⟩
          · simp at e
          · injection e with e; exact ⟨g, e⟩
        have hrow := (hA1 _ rfl)
        go_wp2_with fail
        refine (l12Code_any x _ Hxv.out).mono ?_
        rintro e w1 ⟨rfl, hb1⟩
        have ho1 := ho.later hb1
        have hsz1 := hb1.size
        have hd1 := hb.trans (hb1.mono hsz)
        clear ho hb
        have h0 : w1.ownsRow w.heap.size 49 2 (.slice (some ⟨g, 0, none⟩) (ps.length + 1) c1) (ps.length + 1) ((p :: ps).reverse.flatMap encPrt) := by
          have := ho1; unfold Own at this; rw [hlen] at this; exact this
        have hgx : (p :: ps).reverse[ps.length]? = some p := by simp
        have e0 : w1.cell? ⟨g, ps.length * 2, none⟩ = some (.int .i64 p.c) := by
          rw [h0.cellAt _ (by omega)]
          exact flatMap_at encPrt_len _ ps.length p 0 (.int .i64 p.c) hgx rfl
        have e1 : w1.cell? ⟨g, ps.length * 2 + 1, none⟩ = some (.int .i64 p.m) := by
          rw [h0.cellAt _ (by omega)]
          exact flatMap_at encPrt_len _ ps.length p 1 (.int .i64 p.m) hgx rfl
        have f1 := h0.frozenAt (ps.length * 2 + 1)
        by_cases hpc : p.c = code x
        · rw [if_pos hpc] at Hx
          obtain ⟨ho2, hg2⟩ := ho1.bumpLast (p.m + 1)
          have hbl2 := hd1.grown hg2 (Nat.le_trans hsz hsz1) (fun g' e => by cases e; exact hrow.1)
          go_wp2
          case roundEnd =>
            go_roundw
            case rel => exact ⟨k + 1, by omega, by go_num, by rw [Hx.out]; exact ho2, hbl2⟩
            case measure => simp [intOf]; omega
        · rw [if_neg hpc] at Hx
          have hp2 : ¬ (p.c = code x) := hpc
          go_wp2_with (at_builtin; refine wp_appS rfl _ _ 46 rfl w.heap.size 49 i0 (.agg #[.int .i64 0, .int .i64 0]) 2 16 Tryd.underlying46 hi hz0 hz1 hz2 rfl (by decide) encPrt_len one_prt _ _ [⟨code x, 1⟩] rfl (ho1.alloc _) _ 1 1 rfl (Sl.one _ (⟨code x, 1⟩ : Prt) _ _ rfl) (by intro e; cases e) (by unfold maxLen; rw [hlen]; omega) (by rw [hlen]; omega) (by simp; omega) ?_; intro v' w2 ho2 hg2)
          case roundEnd =>
            have hg3 : (w1.alloc (.cells #[.int .i64 (code x), .int .i64 1] 49)).grownBy w2 (some g) := hg2
            have hbl2 : Below w.heap.size w w2 := (hd1.alloc (Nat.le_trans hsz hsz1) _).grown hg3 (by simp; omega) (fun g' e => by cases e; exact hrow.1)
            go_roundw
            case rel => exact ⟨k + 1, by omega, by go_num, by rw [Hx.out, List.reverse_cons]; exact ho2, hbl2⟩
            case measure => simp [intOf]; omega
    · have hke : k = l.length := by omega
      rw [hke, List.take_length] at ho
      obtain ⟨A1, c1, rfl, hc1, _⟩ := ho.form
      go_wp2
      exact bodyPost_ret (v := .slice A1 (partsOf l).length c1) (by simp [results, Tryd.results40, go_sem, partsOf]) rfl ⟨A1, c1, rfl, hc1, ho, hb⟩
end Go.Proofs.YtdpoicfciogfnaaDoor

/- slices.Reverse at []Part: a row of the call's own is turned round. -/
namespace Go.Proofs.YtdpoicfciogfnaaDoor
open Go.ChangeShapes Go.WideShapes Go.ChangeAt Go.RowKit
theorem setAll_right (a : List Value) : ∀ (vs b : List Value) (p : Nat), setAll (a ++ b) (a.length + p) vs = a ++ setAll b p vs
  | [], _, _ => rfl
  | v :: vs, b, p => by
    rw [setAll, setAll, List.set_append_right _ _ (by omega), Nat.add_sub_cancel_left, Nat.add_assoc]
    exact setAll_right a vs _ _
theorem setAll_front : ∀ (vs a c b : List Value), a.length = vs.length → setAll (c ++ (a ++ b)) c.length vs = c ++ (vs ++ b)
  | [], a, c, b, h => by cases a with
    | nil => rfl
    | cons => simp at h
  | v :: vs, [], c, b, h => by simp at h
  | v :: vs, x :: a, c, b, h => by
    rw [setAll, List.set_append_right _ _ (Nat.le_refl _), Nat.sub_self]
    have := setAll_front vs a (c ++ [v]) b (by simpa using h)
    simpa using this
theorem setAll_elem {α : Type} {enc : α → List Value} {sz : Nat} (he : ∀ x, (enc x).length = sz) : ∀ (l : List α) (k : Nat) (y : α), k < l.length → setAll (l.flatMap enc) (k * sz) (enc y) = (l.set k y).flatMap enc
  | [], k, y, h => by simp at h
  | x :: l, 0, y, _ => by
    have := setAll_front (enc y) (enc x) [] (l.flatMap enc) (by rw [he, he])
    simpa using this
  | x :: l, k + 1, y, h => by
    have h1 := setAll_right (enc x) (enc y) (l.flatMap enc) (k * sz)
    rw [he] at h1
    simp only [List.flatMap_cons, List.set_cons_succ]
    rw [show (k + 1) * sz = sz + k * sz by rw [Nat.add_mul, Nat.one_mul, Nat.add_comm], h1, setAll_elem he l k y (by simpa using h)]
/-- One element of an own slice is written. -/
theorem Own.put {α : Type} {enc : α → List Value} {sz : Nat} (he : ∀ x, (enc x).length = sz) {w : World} {B : Nat} {T : TypeId} {g n cap : Nat} {l : List α} (h : Own w B T sz enc (.slice (some ⟨g, 0, none⟩) n cap) l) (k : Nat) (hk : k < l.length) (y : α) :
    Own (putAll w g (k * sz) (enc y)) B T sz enc (.slice (some ⟨g, 0, none⟩) n cap) (l.set k y) ∧ w.grownBy (putAll w g (k * sz) (enc y)) (some g) := by
  obtain ⟨A', c', e, _⟩ := h.form
  have hn : n = l.length := by injection e
  subst hn
  obtain ⟨h1, h2⟩ := ownsRow_putAll (enc y) _ (k * sz) w h
  rw [setAll_elem he l k y hk] at h1
  refine ⟨?_, h2⟩
  unfold Own
  rw [List.length_set]
  exact h1
/-- Reverse has turned i elements at either end. -/
def RevAt {α : Type} (l l' : List α) (i : Nat) : Prop := l'.length = l.length ∧ ∀ m, m < l.length → l'[m]? = if m < i ∨ l.length < m + 1 + i then l[l.length - 1 - m]? else l[m]?
theorem RevAt.zero {α : Type} (l : List α) : RevAt l l 0 := ⟨rfl, fun m hm => by rw [if_neg (by omega)]⟩
theorem RevAt.step {α : Type} {l l' : List α} {i j : Nat} {x y : α} (h : RevAt l l' i) (hj : i + j + 1 = l.length) (hij : i < j) (hx : l'[i]? = some x) (hy : l'[j]? = some y) : RevAt l ((l'.set i y).set j x) (i + 1) := by
  refine ⟨by simp [h.1], fun m hm => ?_⟩
  have h0 := h.1
  by_cases h1 : m = j
  · subst h1
    rw [List.getElem?_set_self (by simp; omega), if_pos (by omega), ← hx, h.2 i (by omega), if_neg (by omega)]
    congr 1
    omega
  · rw [List.getElem?_set_ne (fun e => h1 e.symm)]
    by_cases h2 : m = i
    · subst h2
      rw [List.getElem?_set_self (by omega), if_pos (by omega), ← hy, h.2 j (by omega), if_neg (by omega)]
      congr 1
      omega
    · rw [List.getElem?_set_ne (fun e => h2 e.symm), h.2 m hm]
      by_cases h3 : m < i ∨ l.length < m + 1 + i
      · rw [if_pos h3, if_pos (by omega)]
      · rw [if_neg h3, if_neg (by omega)]
theorem RevAt.done {α : Type} {l l' : List α} {i : Nat} (h : RevAt l l' i) (hi : l.length ≤ 2 * i + 1) : l' = l.reverse := by
  apply List.ext_getElem?
  intro m
  by_cases hm : m < l.length
  · rw [h.2 m hm, List.getElem?_reverse hm]
    split
    · rfl
    · congr 1; omega
  · rw [List.getElem?_eq_none (by rw [h.1]; omega), List.getElem?_eq_none (by simp; omega)]
set_option maxRecDepth 100000 in
theorem reversePart_any (g cap n : Nat) (l : List Prt) (B : Nat) (w : World) (h : Own w B 49 2 encPrt (.slice (some ⟨g, 0, none⟩) n cap) l) (hn : n ≤ 1000000) :
    Calls Tryd.prog 68 #[.slice (some ⟨g, 0, none⟩) n cap] w fun e w' => e = .returned (.tuple #[]) ∧ Own w' B 49 2 encPrt (.slice (some ⟨g, 0, none⟩) n cap) l.reverse ∧ w.grownBy w' (some g) := by
  have hln : n = l.length := by
    obtain ⟨A', c', e, _⟩ := h.form
    injection e
  have Hln := Lib.hid hln
  clear hln
  go_enter Tryd.func68, Tryd.ntmps68
  go_wp2
  go_loopw [2, 3] (fun i j wr => ∃ (k : Nat) (jz : Int) (l' : List Prt), i = .int .i64 k ∧ j = .int .i64 jz ∧ jz = n - 1 - k ∧ 2 * k ≤ n + 1 ∧ RevAt l l' k ∧ Own wr B 49 2 encPrt (.slice (some ⟨g, 0, none⟩) n cap) l' ∧ w.grownBy wr (some g)) (fun i _ _ => n - (intOf i).toNat)
  case atStart => exact ⟨0, (n : Int) - 1, l, rfl, rfl, by omega, by omega, RevAt.zero l, h, grownBy_refl _ _⟩
  case round =>
    obtain ⟨k, jz, l', rfl, rfl, hjz, hk2, hR, ho, hg⟩ := hrel
    have hln := Hln.out
    by_cases hlt : (k : Int) < jz
    · obtain ⟨jn, rfl⟩ : ∃ jn : Nat, jz = jn := ⟨jz.toNat, by omega⟩
      have hlen' := hR.1
      obtain ⟨x, hx⟩ : ∃ x, l'[k]? = some x := ⟨_, List.getElem?_eq_getElem (by omega)⟩
      obtain ⟨y, hy⟩ : ∃ y, l'[jn]? = some y := ⟨_, List.getElem?_eq_getElem (by omega)⟩
      have hR2 := hR.step (by omega) (by omega) hx hy
      obtain ⟨ho1, hg1⟩ := ho.put encPrt_len k (by omega) y
      obtain ⟨ho2, hg2⟩ := ho1.put encPrt_len jn (by simp; omega) x
      have h0 : wr.ownsRow B 49 2 (.slice (some ⟨g, 0, none⟩) n cap) n (l'.flatMap encPrt) := by
        have := ho; unfold Own at this; rw [hlen', ← hln] at this; exact this
      have c0 : wr.cell? ⟨g, k * 2, none⟩ = some (.int .i64 x.c) := by
        rw [h0.cellAt _ (by omega)]
        exact flatMap_at encPrt_len _ k x 0 (.int .i64 x.c) hx rfl
      have c1 : wr.cell? ⟨g, k * 2 + 1, none⟩ = some (.int .i64 x.m) := by
        rw [h0.cellAt _ (by omega)]
        exact flatMap_at encPrt_len _ k x 1 (.int .i64 x.m) hx rfl
      have c2 : wr.cell? ⟨g, jn * 2, none⟩ = some (.int .i64 y.c) := by
        rw [h0.cellAt _ (by omega)]
        exact flatMap_at encPrt_len _ jn y 0 (.int .i64 y.c) hy rfl
      have c3 : wr.cell? ⟨g, jn * 2 + 1, none⟩ = some (.int .i64 y.m) := by
        rw [h0.cellAt _ (by omega)]
        exact flatMap_at encPrt_len _ jn y 1 (.int .i64 y.m) hy rfl
      have f0 := h0.frozenAt (k * 2)
      have f1 := h0.frozenAt (k * 2 + 1)
      have f2 := h0.frozenAt (jn * 2)
      have f3 := h0.frozenAt (jn * 2 + 1)
      have hg3 := grownBy_trans hg (grownBy_trans hg1 hg2)
      clear hx hy hR h0 h ho ho1 hg1 hg2 hg
      have HO := Lib.hid ho2
      have HG := Lib.hid hg3
      have HR := Lib.hid hR2
      have hjn : jn < n := by omega
      have hkn : k < jn := by omega
      have Hj := Lib.hid hjz
      have Hl := Lib.hid hlen'
      clear ho2 hg3 hR2 hjz hln hlen' hlt
      go_wp2_with fail
      go_region
      go_wp2
      case roundEnd =>
        go_roundw
        case rel => exact ⟨k + 1, (jn : Int) - 1, (l'.set k y).set jn x, by go_num, by go_num, by have := Hj.out; omega, by have := Hj.out; omega, HR.out, HO.out, ⟨HG.out.os, HG.out.tape, HG.out.output, HG.out.size, HG.out.block⟩⟩
        case measure => simp [intOf]; omega
    · have hl' := hR.done (by omega)
      subst hl'
      clear hln
      go_wp2
      go_end0
      exact ⟨rfl, ho, hg⟩
end Go.Proofs.YtdpoicfciogfnaaDoor

/- Parts of inputs: the program's linked list, by its contract. -/
namespace Go.Proofs.YtdpoicfciogfnaaDoor
open Go.ChangeShapes Go.WideShapes Go.ChangeAt Go.RowKit
/-- A linked list of parts: its nodes lie ever lower, none below B. -/
def Lk (w : World) (B : Nat) : Value → List Prt → Nat → Prop
  | v, [], _ => v = .pointer none
  | v, p :: ps, u => ∃ b v', v = .pointer (some ⟨b, 0, none⟩) ∧ B ≤ b ∧ b < u ∧ Blk w b [.int .i64 p.c, .int .i64 p.m, v'] ∧ w.frozen? ⟨b, 1, none⟩ = false ∧ Lk w B v' ps b
theorem Lk.below {w w' : World} {B N : Nat} (hb : Below N w w') : ∀ {R : List Prt} {v : Value} {u : Nat}, Lk w B v R u → u ≤ N → Lk w' B v R u
  | [], _, _, h, _ => h
  | _ :: _, _, _, ⟨b, v', e, h1, h2, h3, hf, h4⟩, hu => ⟨b, v', e, h1, h2, h3.below hb (by omega), (hb.frozen (p := ⟨b, 1, none⟩) (show b < N by omega)).trans hf, h4.below hb (by omega)⟩
theorem Lk.mono {w : World} {B u u' : Nat} (hu : u ≤ u') : ∀ {R : List Prt} {v : Value}, Lk w B v R u → Lk w B v R u'
  | [], _, h => h
  | _ :: _, _, ⟨b, v', e, h1, h2, h3, hf, h4⟩ => ⟨b, v', e, h1, by omega, h3, hf, h4⟩
set_option maxRecDepth 100000 in
theorem reverseNil_any (A : Option Addr) (cap : Nat) (w : World) :
    Calls Tryd.prog 68 #[.slice A 0 cap] w fun e w' => e = .returned (.tuple #[]) ∧ w' = w := by
  go_enter Tryd.func68, Tryd.ntmps68
  go_wp2
  go_loopg [2, 3] 0 (fun _ s2 s3 wr => s2 = .int .i64 0 ∧ s3 = .int .i64 (-1) ∧ wr = w)
  case atStart => exact ⟨rfl, rfl, rfl⟩
  case round =>
    obtain ⟨rfl, rfl, rfl⟩ := hrel
    go_wp2
    go_end0
    exact ⟨rfl, rfl⟩
set_option maxRecDepth 100000 in
set_option maxHeartbeats 400000 in
theorem partNodeParts_any (v : Value) (R : List Prt) (B u : Nat) (w : World) (h : Lk w B v R u) (hu : u ≤ w.heap.size) (hn : R.length ≤ 100000) :
    Calls Tryd.prog 49 #[v] w (RetOwn 49 2 encPrt R.reverse w) := by
  obtain ⟨i0, hi, hz0, hz1, hz2⟩ := info_parts Tryd.infoPart
  go_enter Tryd.func49, Tryd.ntmps49
  go_wp2
  go_loopg [0, 3] R.length (fun k v out wr => ∃ (dn rest : List Prt) (u' : Nat), R = dn ++ rest ∧ rest.length = k ∧ u' ≤ w.heap.size ∧ Lk w B v rest u' ∧ Own wr w.heap.size 49 2 encPrt out dn ∧ Below w.heap.size w wr)
  case atStart => exact ⟨[], R, u, rfl, rfl, hu, h, Own.none_, Below.refl _ _⟩
  case round =>
    obtain ⟨dn, rest, u', hR, hk, hu', hL, ho, hb⟩ := hrel
    have hsz := hb.size
    have hlenR : dn.length + rest.length = R.length := by rw [hR]; simp
    cases rest with
    | nil =>
      obtain rfl := hL
      rw [List.append_nil] at hR
      have HR := Lib.hid hR
      clear hR
      have ho' := ho
      rcases ho.2 with ⟨rfl, e2⟩ | ⟨g, cap, cur, rfl, hgB, hgg, hcap, _⟩
      · have h0 : dn = [] := List.length_eq_zero_iff.1 e2
        clear ho
        go_wp2_with fail
        refine (reverseNil_any none 0 wr).mono ?_
        rintro e w' ⟨rfl, rfl⟩
        go_wp2
        rw [HR.out, h0]
        rw [h0] at ho'
        exact bodyPost_ret (v := .slice none 0 0) (by simp [results, Tryd.results49, go_sem]) rfl ⟨none, 0, rfl, Nat.le_refl _, ho', hb⟩
      · clear ho
        have hdn : dn.length ≤ 1000000 := by simp at hlenR; omega
        clear hlenR
        go_wp2_with fail
        refine (reversePart_any g cap dn.length dn w.heap.size wr ho' hdn).mono ?_
        rintro e w' ⟨rfl, ho2, hg2⟩
        go_wp2
        rw [HR.out]
        exact bodyPost_ret (v := .slice (some ⟨g, 0, none⟩) dn.length cap) (by simp [results, Tryd.results49, go_sem]) rfl ⟨some ⟨g, 0, none⟩, cap, by simp, by simpa using hcap, by simpa using ho2, hb.grown hg2 hsz (fun g' e => by cases e; exact hgB)⟩
    | cons p ps =>
      obtain ⟨b, v', rfl, hB1, hb2, hBk, _, hL2⟩ := hL
      obtain ⟨q0, q1, q2⟩ := ((hBk.below hb (by omega))).c3
      have hrow := ho.lt
      have hdl : dn.length ≤ 100000 := by omega
      have HR := Lib.hid hR
      clear hR
      go_wp2_with (at_builtin; refine wp_appS rfl _ _ 46 rfl w.heap.size 49 i0 (.agg #[.int .i64 0, .int .i64 0]) 2 16 Tryd.underlying46 hi hz0 hz1 hz2 rfl (by decide) encPrt_len one_prt _ _ [p] rfl (ho.alloc _) _ 1 1 rfl (Sl.one _ p _ _ rfl) (by intro e; cases e) (by unfold maxLen; omega) (by omega) (by simp; omega) ?_; intro v2 w2 ho2 hg2; have hg3 : (wr.alloc (.cells #[.int .i64 p.c, .int .i64 p.m] 49)).grownBy w2 u3.ownBlock := hg2; have hbl2 : Below w.heap.size w w2 := (hb.alloc hsz _).grown hg3 (by simp; omega) (fun g e => (hrow _ e).1); have q3 : w2.cell? ⟨b, 2, none⟩ = some v' := (hBk.below hbl2 (by omega)).2 2 _ rfl)
      go_roundg ps.length
      case measure => simp at hk; omega
      case rel => exact ⟨dn ++ [p], ps, b, by rw [HR.out]; simp, rfl, by omega, hL2, ho2, hbl2⟩
end Go.Proofs.YtdpoicfciogfnaaDoor

/- ReplayParts: the reference's and the program's. -/
namespace Go.Proofs.YtdpoicfciogfnaaDoor
open Go.ChangeShapes Go.WideShapes Go.ChangeAt Go.RowKit
def partsL (l : List Inp) : List Prt := if inputsOkB l then partsOf l else []
theorem Lk.bump {w : World} {B b u : Nat} {p : Prt} {ps : List Prt} {v' : Value} (m : Int) (h1 : B ≤ b) (h2 : b < u) (hBk : Blk w b [.int .i64 p.c, .int .i64 p.m, v']) (hf : w.frozen? ⟨b, 1, none⟩ = false) (h4 : Lk w B v' ps b) :
    Lk (w.setCell ⟨b, 1, none⟩ (.int .i64 m)) B (.pointer (some ⟨b, 0, none⟩)) (⟨p.c, m⟩ :: ps) u := by
  obtain ⟨r0, r1, r2⟩ := hBk.c3
  have hbb := below_setCell (p := ⟨b, 1, none⟩) (Nat.le_refl b) (Below.refl b w) (.int .i64 m)
  refine ⟨b, v', rfl, h1, h2, ⟨Nat.lt_of_lt_of_le hBk.1 hbb.size, fun j v hv => ?_⟩, by simpa using hf, h4.below hbb (Nat.le_refl _)⟩
  match j, hv with
  | 0, hv => exact (World.cell?_setCell_other w ⟨b, 1, none⟩ _ _ (by simp)).trans (hBk.2 0 v hv)
  | 1, hv => exact (World.cell?_setCell_same w _ _ r1).trans hv
  | 2, hv => exact (World.cell?_setCell_other w ⟨b, 1, none⟩ _ _ (by simp)).trans (hBk.2 2 v hv)
set_option maxRecDepth 100000 in
set_option maxHeartbeats 1000000 in
theorem implReplayParts_any (A : Option Addr) (c : Nat) (l : List Inp) (w : World) (h : Sl w 3 encInp A l.length l) (hln : l.length ≤ 9223372036854775807) :
    Calls Tryd.prog 23 #[.slice A l.length c] w (RetOwn 49 2 encPrt (partsL l) w) := by
  go_enter Tryd.func23, Tryd.ntmps23
  go_wp2_with fail
  refine (inputsOk_any _ _ _ l _ h hln).mono ?_
  rintro e w1 ⟨rfl, hb1⟩
  cases hok : inputsOkB l with
  | false =>
    have hrl : partsL l = [] := by unfold partsL; rw [hok]; rfl
    go_wp2
    rw [hrl]
    exact bodyPost_ret (v := .slice none 0 0) (by simp [results, Tryd.results23, go_sem]) rfl ⟨none, 0, rfl, Nat.le_refl _, Own.none_, hb1⟩
  | true =>
    have hrl : partsL l = partsOf l := by unfold partsL; rw [hok]; rfl
    obtain ⟨hv, hn⟩ := inputsOkB_iff.1 hok
    go_wp2
    go_loopw [3, 12] (fun v i wr => ∃ k : Nat, k ≤ l.length ∧ i = .int .i64 k ∧ Lk wr w.heap.size v (rparts (l.take k)) wr.heap.size ∧ Below w.heap.size w wr) (fun _ i _ => l.length - (intOf i).toNat)
    case atStart => exact ⟨0, Nat.zero_le _, rfl, rfl, hb1⟩
    case round =>
      obtain ⟨k, hk, rfl, hL, hb⟩ := hrel
      clear hb1
      obtain ⟨hR1, hR2⟩ := rparts_bd l k
      have hsz := hb.size
      by_cases hlt : k < l.length
      · obtain ⟨b0, off, x, rfl, hbl, hx, hc⟩ := (h.below hb).at_ hlt
        have q0 : wr.cell? ⟨b0, off + k * 3, none⟩ = some (.int .i64 x.s) := hc 0 _ rfl
        have q1 : wr.cell? ⟨b0, off + k * 3 + 1, none⟩ = some (.int .i64 x.p) := hc 1 _ rfl
        have q2 : wr.cell? ⟨b0, off + k * 3 + 2, none⟩ = some (.bool x.z) := hc 2 _ rfl
        have hxv := hv x (List.mem_of_getElem? hx)
        have Hxv := Lib.hid hxv
        have Hx := Lib.hid (rparts_take hx)
        have hbx := hb.alloc hsz (.cells #[.int .i64 x.s, .int .i64 x.p, .bool x.z] 68)
        have hLx := hL.below (below_alloc (Below.refl _ _) (.cells #[.int .i64 x.s, .int .i64 x.p, .bool x.z] 68)) (Nat.le_refl _)
        clear hx hc hxv hv h hok hL hrl
        go_wp2_with fail
        refine (implInputCode_ok x _ Hxv.out).mono ?_
        rintro e w2 ⟨rfl, hb2⟩
        have hL2 := hLx.below hb2 (by simp)
        have hd2 := below_after hbx hb2
        have hs2 : wr.heap.size + 1 ≤ w2.heap.size := by have := hb2.size; simpa using this
        clear hLx hbx hb2
        cases hR : rparts (l.take k) with
        | nil =>
          rw [hR] at hL2 Hx
          obtain rfl := hL2
          go_wp2
          case roundEnd =>
            go_roundw
            case rel => exact ⟨k + 1, by omega, by go_num, by rw [Hx.out]; exact ⟨_, _, rfl, by omega, by simp, Blk.new w2 #[.int .i64 (code x), .int .i64 1, .pointer none] _, by simp, rfl⟩, below_alloc hd2 _⟩
            case measure => simp [intOf]; omega
        | cons p ps =>
          rw [hR] at hL2 hR2 hR1
          rw [hR, bump_cons] at Hx
          have hL2' := hL2
          obtain ⟨b, v', rfl, hB1, hb3, hBk, hf, hL3⟩ := hL2
          obtain ⟨r0, r1, r2⟩ := hBk.c3
          have hm := hR2 p (List.mem_cons_self ..)
          by_cases hpc : p.c = code x
          · rw [if_pos hpc] at Hx
            have hN := Lk.bump (p.m + 1) hB1 hb3 hBk hf hL3
            have hd3 := hd2.setCell (p := ⟨b, 1, none⟩) hB1 (.int .i64 (p.m + 1))
            clear hL2'
            go_wp2
            case roundEnd =>
              go_roundw
              case rel => exact ⟨k + 1, by omega, by go_num, by rw [Hx.out]; exact hN.mono (by simp; omega), hd3⟩
              case measure => simp [intOf]; omega
          · rw [if_neg hpc] at Hx
            have HL := Lib.hid hL2'
            clear hL2'
            go_wp2
            case roundEnd =>
              go_roundw
              case rel => exact ⟨k + 1, by omega, by go_num, by rw [Hx.out]; exact ⟨_, _, rfl, by omega, by simp, Blk.new w2 #[.int .i64 (code x), .int .i64 1, .pointer (some ⟨b, 0, none⟩)] _, by simp, (HL.out.mono (show wr.heap.size ≤ w2.heap.size by omega)).below (below_alloc (Below.refl _ _) _) (Nat.le_refl _)⟩, below_alloc hd2 _⟩
              case measure => simp [intOf]; omega
      · have hke : k = l.length := by omega
        rw [hke, List.take_length] at hL hR1
        go_wp2_with fail
        refine (partNodeParts_any _ _ _ _ _ hL (Nat.le_refl _) (by omega)).mono ?_
        rintro e w2 ⟨A2, c2, rfl, hc2, ho2, hb2⟩
        go_wp2
        rw [hrl]
        exact bodyPost_ret (v := .slice A2 (partsOf l).length c2) (by simp [results, Tryd.results23, go_sem, partsOf]) rfl ⟨A2, c2, rfl, hc2, ho2.mono hsz, below_after hb hb2⟩
end Go.Proofs.YtdpoicfciogfnaaDoor

/- ReplayInputs: the plain function; the reference's by its contract. -/
namespace Go.Proofs.YtdpoicfciogfnaaDoor
open Go.ChangeShapes Go.WideShapes Go.ChangeAt Go.RowKit
def outTo (ps : List Prt) (k : Nat) : List Inp := (ps.take k).flatMap fun p => List.replicate p.m.toNat (inpOf p.c)
/-- Is part number k wrong? -/
def badP (ps : List Prt) (k : Nat) : Bool :=
  match ps[k]? with
  | none => false
  | some p => !codeOk p.c || (!inR 1 (60 - (outTo ps k).length) p.m || (decide (0 < k) && (match ps[k - 1]? with | some q => q.c == p.c | none => false)))
def goodParts (ps : List Prt) : Bool := (List.range ps.length).all fun k => !badP ps k
def inputsOf (ps : List Prt) : List Inp := if goodParts ps then outTo ps ps.length else []
theorem goodParts_iff {ps : List Prt} : goodParts ps = true ↔ ∀ j, j < ps.length → badP ps j = false := by
  simp [goodParts]
theorem goodParts_no {ps : List Prt} {k : Nat} (hk : k < ps.length) (h : badP ps k = true) : goodParts ps = false := by
  cases e : goodParts ps with
  | false => rfl
  | true => rw [goodParts_iff.1 e k hk] at h; cases h
theorem outTo_succ {ps : List Prt} {k : Nat} {p : Prt} (hp : ps[k]? = some p) : outTo ps (k + 1) = outTo ps k ++ List.replicate p.m.toNat (inpOf p.c) := by
  unfold outTo
  rw [List.take_add_one, hp, List.flatMap_append]
  simp
theorem badP_eq {ps : List Prt} {k : Nat} {p : Prt} (hp : ps[k]? = some p) : badP ps k = (!codeOk p.c || (!inR 1 (60 - (outTo ps k).length) p.m || (decide (0 < k) && (match ps[k - 1]? with | some q => q.c == p.c | none => false)))) := by
  unfold badP; rw [hp]
theorem outTo_len {ps : List Prt} {k : Nat} (h : ∀ j, j < k → badP ps j = false) (hk : k ≤ ps.length) : (outTo ps k).length ≤ 60 := by
  cases k with
  | zero => simp [outTo]
  | succ k =>
    have hx : ps[k]? = some (ps[k]'(by omega)) := List.getElem?_eq_getElem _
    have hb := h k (by omega)
    rw [badP_eq hx] at hb
    simp only [Bool.or_eq_false_iff, Bool.not_eq_false', inR_iff] at hb
    rw [outTo_succ hx, List.length_append, List.length_replicate]
    omega
def RetOwnB {α : Type} (T : TypeId) (sz : Nat) (enc : α → List Value) (l : List α) (b : Bool) (w : World) (e : Ending) (w' : World) : Prop :=
  ∃ A c, e = .returned (.tuple #[.slice A l.length c, .bool b]) ∧ l.length ≤ c ∧ Own w' w.heap.size T sz enc (.slice A l.length c) l ∧ Below w.heap.size w w'
theorem prt_at {w : World} {b off k : Nat} {x : Prt} (hc : ∀ j v, (encPrt x)[j]? = some v → w.cell? ⟨b, off + k * 2 + j, none⟩ = some v) : w.cell? ⟨b, off + k * 2, none⟩ = some (.int .i64 x.c) ∧ w.cell? ⟨b, off + k * 2 + 1, none⟩ = some (.int .i64 x.m) := ⟨hc 0 _ rfl, hc 1 _ rfl⟩
theorem own_nil_inp (w : World) (B N : Nat) (T : TypeId) (hB : B ≤ w.heap.size) (hN : w.heap.size = N) : Own (w.alloc (.cells #[] T)) B T 3 encInp (.slice (some ⟨N, 0, none⟩) 0 0) [] := by
  subst hN
  exact World.ownsRow_lit (base := B) (size := 3) w #[] 0 hB (by decide) rfl
theorem Own.drewN {α : Type} {w : World} {B : Nat} {T : TypeId} {sz : Nat} {enc : α → List Value} {v : Value} {l : List α} (h : Own w B T sz enc v l) (n : Nat) : Own (w.drewN n) B T sz enc v l := h
theorem Tryd.infoInp : (Tryd.prog.info? 68).map (fun i => (i.zero, i.size, i.bytes)) = some (some (.agg #[.int .i64 0, .int .i64 0, .bool false]), 3, 24) := by kernel_rfl
set_option maxRecDepth 100000 in
set_option maxHeartbeats 1000000 in
theorem specReplayInputs_any (A : Option Addr) (c : Nat) (ps : List Prt) (w : World) (h : Sl w 2 encPrt A ps.length ps) (hn : ps.length ≤ 9000000000000000000) :
    Calls Tryd.prog 56 #[.slice A ps.length c] w (RetOwnB 68 3 encInp (inputsOf ps) (goodParts ps) w) := by
  obtain ⟨i0, hi, hz0, hz1, hz2⟩ := info_parts Tryd.infoInp
  go_enter Tryd.func56, Tryd.ntmps56
  go_wp2
  go_loopw [4, 5] (fun v i wr => ∃ k : Nat, k ≤ ps.length ∧ i = .int .i64 k ∧ (∀ j, j < k → badP ps j = false) ∧ Own wr w.heap.size 68 3 encInp v (outTo ps k) ∧ Below w.heap.size w wr) (fun _ i _ => ps.length - (intOf i).toNat)
  case atStart => exact ⟨0, Nat.zero_le _, rfl, fun j hj => by omega, own_nil_inp _ _ _ _ (by simp) (by simp), by (with_reducible repeat first | exact bl0 _ _ | refine blA ?_ _ | (refine blS ?_ ?_ _; (simp <;> omega)) | refine blD ?_ | refine blN ?_ _ | refine blF ?_ ‹_›)⟩
  case round =>
    obtain ⟨k, hk, rfl, hgood, ho, hb⟩ := hrel
    have hol := outTo_len hgood hk
    obtain ⟨Av, cv, rfl, hcv, _⟩ := ho.form
    by_cases hlt : k < ps.length
    · obtain ⟨b, off, x, rfl, hbw, hx, hcw⟩ := h.at_ hlt
      obtain ⟨w0q, w1q⟩ := prt_at hcw
      have q0 : wr.cell? ⟨b, off + k * 2, none⟩ = some (.int .i64 x.c) := (hb.cell (p := ⟨b, off + k * 2, none⟩) hbw).trans w0q
      have q1 : wr.cell? ⟨b, off + k * 2 + 1, none⟩ = some (.int .i64 x.m) := (hb.cell (p := ⟨b, off + k * 2 + 1, none⟩) hbw).trans w1q
      have hbl : b < wr.heap.size := Nat.lt_of_lt_of_le hbw hb.size
      have HB := Lib.hid (badP_eq hx)
      have HO := Lib.hid (outTo_succ hx)
      have HG := Lib.hid hgood
      have Hx := Lib.hid hx
      clear hgood hcw hx
      obtain ⟨xc, xm⟩ := x
      simp only at q0 q1 w0q w1q HB HO
      have e1 : IntKind.i64.wrap (60 - ((outTo ps k).length : Int)) = 60 - ((outTo ps k).length : Int) := IntWalk.i64_in _ (by omega)
      cases hco : codeOk xc
      · have hbad : Hid (goodParts ps = false) := Lib.hid (goodParts_no hlt (by rw [HB.out, hco]; rfl))
        have hin : Hid (inputsOf ps = []) := Lib.hid (by unfold inputsOf; rw [hbad.out]; rfl)
        rw [hbad.out, hin.out]
        go_wp2_with fail
        refine (specInputOf_any xc _).mono ?_
        rintro e w1 ⟨rfl, hb1⟩
        have hd1 : Below w.heap.size w w1 := by (with_reducible repeat first | exact bl0 _ _ | refine blA ?_ _ | (refine blS ?_ ?_ _; (simp <;> omega)) | refine blD ?_ | refine blN ?_ _ | refine blF ?_ ‹_›)
        clear hb1
        go_wp2
        go_quiet (fail)
        go_wp2
        have hsz := hd1.size
        exact bodyPost_ret (v := .tuple #[.slice (some ⟨w1.heap.size + 1, 0, none⟩) 0 0, .bool false]) (by simp [results, Tryd.results56, go_sem]) rfl ⟨some ⟨w1.heap.size + 1, 0, none⟩, 0, rfl, Nat.le_refl _, own_nil_inp _ _ _ _ (by simp; omega) (by simp), by (with_reducible repeat first | exact bl0 _ _ | refine blA ?_ _ | (refine blS ?_ ?_ _; (simp <;> omega)) | refine blD ?_ | refine blN ?_ _ | refine blF ?_ ‹_›)⟩
      · cases hrg : inR 1 (60 - (outTo ps k).length) xm
        · have hz : True := trivial
          have hbad : Hid (goodParts ps = false) := Lib.hid (goodParts_no hlt (by rw [HB.out, hco, hrg]; rfl))
          have hin : Hid (inputsOf ps = []) := Lib.hid (by unfold inputsOf; rw [hbad.out]; rfl)
          rw [hbad.out, hin.out]
          go_wp2_with fail
          refine (specInputOf_any xc _).mono ?_
          rintro e w1 ⟨rfl, hb1⟩
          have hd1 : Below w.heap.size w w1 := by (with_reducible repeat first | exact bl0 _ _ | refine blA ?_ _ | (refine blS ?_ ?_ _; (simp <;> omega)) | refine blD ?_ | refine blN ?_ _ | refine blF ?_ ‹_›)
          have ho1 := ho.later hb1
          have hlts := ho.lt
          have hsz1 := hb1.size
          have r0 : w1.cell? ⟨b, off + k * 2, none⟩ = some (.int .i64 xc) := (hb1.cell (p := ⟨b, off + k * 2, none⟩) hbl).trans q0
          have r1 : w1.cell? ⟨b, off + k * 2 + 1, none⟩ = some (.int .i64 xm) := (hb1.cell (p := ⟨b, off + k * 2 + 1, none⟩) hbl).trans q1
          have hbl1 : b < w1.heap.size := Nat.lt_of_lt_of_le hbl hb1.size
          clear hb1 q0 q1
          go_wp2
          go_quiet ((go_at_call 38; exact Calls.quiet_of_same (stl (l6In_r _ _ _ _))))
          go_wp2
          have hsz := hd1.size
          exact bodyPost_ret (v := .tuple #[.slice (some ⟨w1.heap.size + 1, 0, none⟩) 0 0, .bool false]) (by simp [results, Tryd.results56, go_sem]) rfl ⟨some ⟨w1.heap.size + 1, 0, none⟩, 0, rfl, Nat.le_refl _, own_nil_inp _ _ _ _ (by simp; omega) (by simp), by (with_reducible repeat first | exact bl0 _ _ | refine blA ?_ _ | (refine blS ?_ ?_ _; (simp <;> omega)) | refine blD ?_ | refine blN ?_ _ | refine blF ?_ ‹_›)⟩
        · rcases Nat.eq_zero_or_pos k with hk0 | hk0
          · have hk1 : decide ((0 : Int) < (k : Int)) = false := by simp; omega
            have hk2 : decide (0 < k) = false := by simp; omega
            have HK0 := Lib.hid hk0
            clear hk0
            have hgo : Hid (badP ps k = false) := Lib.hid (by rw [HB.out, hco, hrg, hk2]; rfl)
            obtain ⟨hm0, hm1⟩ := inR_iff.1 hrg
            clear hrg
            have hrg : inR 1 (60 - ↑(outTo ps k).length) xm = true := inR_iff.2 ⟨hm0, hm1⟩
            go_wp2_with fail
            refine (specInputOf_any xc _).mono ?_
            rintro e w1 ⟨rfl, hb1⟩
            have hd1 : Below w.heap.size w w1 := by (with_reducible repeat first | exact bl0 _ _ | refine blA ?_ _ | (refine blS ?_ ?_ _; (simp <;> omega)) | refine blD ?_ | refine blN ?_ _ | refine blF ?_ ‹_›)
            have ho1 := ho.later hb1
            have hlts := ho.lt
            have hsz1 := hb1.size
            have r0 : w1.cell? ⟨b, off + k * 2, none⟩ = some (.int .i64 xc) := (hb1.cell (p := ⟨b, off + k * 2, none⟩) hbl).trans q0
            have r1 : w1.cell? ⟨b, off + k * 2 + 1, none⟩ = some (.int .i64 xm) := (hb1.cell (p := ⟨b, off + k * 2 + 1, none⟩) hbl).trans q1
            have hbl1 : b < w1.heap.size := Nat.lt_of_lt_of_le hbl hb1.size
            clear hb1 q0 q1
            go_wp2
            go_quiet ((go_at_call 38; exact Calls.quiet_of_same (stl (l6In_r _ _ _ _))))
            have hX1 : Bk (w1.alloc (.cells #[.int .i64 (inpOf xc).s, .int .i64 (inpOf xc).p, .bool (inpOf xc).z] 68)) w1.heap.size 68 #[.int .i64 (inpOf xc).s, .int .i64 (inpOf xc).p, .bool (inpOf xc).z] := Bk.new _ _ _ rfl
            clear e1 hrg
            generalize inpOf xc = xi at *
            go_wp2
            go_loopw [4, 8] (fun v kk wi => ∃ j : Nat, (j : Int) ≤ xm ∧ kk = .int .i64 j ∧ Own wi w.heap.size 68 3 encInp v (outTo ps k ++ List.replicate j xi) ∧ v.ownBlock ≠ some w1.heap.size ∧ Bk wi w1.heap.size 68 #[.int .i64 xi.s, .int .i64 xi.p, .bool xi.z] ∧ Below w.heap.size w wi) (fun _ kk _ => (xm - intOf kk).toNat)
            case atStart => exact ⟨0, by omega, rfl, by rw [List.replicate_zero, List.append_nil]; exact ((ho1.alloc _).drewN _), (by intro e; have := (hlts _ e).2; omega), hX1.drewN _, by (with_reducible repeat first | exact bl0 _ _ | refine blA ?_ _ | (refine blS ?_ ?_ _; (simp <;> omega)) | refine blD ?_ | refine blN ?_ _ | refine blF ?_ ‹_›)⟩
            case round =>
              obtain ⟨j, hj, rfl, hoj, hvn, hX, hbj⟩ := hrel
              have s1 : wr.cell? ⟨b, off + k * 2 + 1, none⟩ = some (.int .i64 xm) := (hbj.cell (p := ⟨b, off + k * 2 + 1, none⟩) hbw).trans w1q
              have hblr : b < wr.heap.size := Nat.lt_of_lt_of_le hbw hbj.size
              have hXl := hX.lt
              obtain ⟨⟨x0, x1, x2⟩, xf⟩ := hX.c3
              clear hX1 r0 r1 ho1 ho
              have hjl : (outTo ps k ++ List.replicate j xi).length ≤ 60 := by rw [List.length_append, List.length_replicate]; omega
              by_cases hjm : (j : Int) < xm
              · have hrlt := hoj.lt
                have hbs := hbj.size
                go_wp2_with (at_builtin; refine wp_appL rfl _ _ 28 rfl w.heap.size 68 i0 (.agg #[.int .i64 0, .int .i64 0, .bool false]) 3 24 Tryd.underlying28 hi hz0 hz1 hz2 rfl (by decide) encInp_len one_inp _ _ [xi] rfl (hoj.alloc _) _ 1 1 rfl (Sl.one _ xi _ _ rfl) (by intro e; cases e) (by unfold maxLen; omega) (by omega) (by simp; omega) ?_; intro v2 w2 ho2 hg2 hl2)
                case roundEnd =>
                  have hX2 : Bk w2 w1.heap.size 68 #[.int .i64 xi.s, .int .i64 xi.p, .bool xi.z] := (hX.alloc _).grown hg2 (Ne.symm hvn)
                  have hb2 : Below w.heap.size w w2 := (below_alloc hbj _).grown hg2 (by simp; omega) (by intro g e; exact (hrlt _ e).1)
                  have hv2 : v2.ownBlock ≠ some w1.heap.size := by
                    intro e
                    rcases hl2 with e2 | e2 <;> rw [e2] at e
                    · exact hvn e
                    · simp at e; omega
                  go_roundw
                  case rel => exact ⟨j + 1, by omega, by go_num, by rw [List.replicate_succ', ← List.append_assoc]; exact ho2, hv2, hX2, hb2⟩
                  case measure => simp [intOf]; omega
              · have hjx : xm.toNat = j := by omega
                clear x0 x1 x2 xf
                go_wp2
                case roundEnd =>
                  go_roundw
                  case rel => exact ⟨k + 1, by omega, by go_num, good_succ HG.out hgo.out, by rw [HO.out, hjx]; exact hoj, hbj⟩
                  case measure => simp [intOf]; omega
          · obtain ⟨b2, off2, y, hA2, hbl2, hy, hcy⟩ := (h.below hb).at_ (k := k - 1) (by omega)
            simp only [Option.some.injEq, Addr.mk.injEq, and_true] at hA2
            obtain ⟨rfl, rfl⟩ := hA2
            obtain ⟨y0, y1⟩ := prt_at hcy
            obtain ⟨yc, ym⟩ := y
            simp only at y0 y1
            have hk1 : decide (0 < k) = true := by simpa using hk0
            have hk2 : (0 : Int) < (k : Int) := by omega
            have hk3 : IntKind.i64.wrap ((k : Int) - 1) = (k : Int) - 1 := IntWalk.i64_in _ (by omega)
            have hk4 : ((k : Int) - 1).toNat = k - 1 := by omega
            have hk5 : (0 : Int) ≤ (k : Int) - 1 := by omega
            have hk6 : (k : Int) - 1 < (ps.length : Int) := by omega
            have hk7 : 1 ≤ k := hk0
            have HY := Lib.hid hy
            clear hy hcy
            cases hq : (yc == xc)
            · have hz : True := trivial
              have hgo : Hid (badP ps k = false) := Lib.hid (by rw [HB.out, hco, hrg, hk1, HY.out]; simp only; rw [hq]; rfl)
              obtain ⟨hm0, hm1⟩ := inR_iff.1 hrg
              clear hrg
              have hrg : inR 1 (60 - ↑(outTo ps k).length) xm = true := inR_iff.2 ⟨hm0, hm1⟩
              go_wp2_with fail
              refine (specInputOf_any xc _).mono ?_
              rintro e w1 ⟨rfl, hb1⟩
              have hd1 : Below w.heap.size w w1 := by (with_reducible repeat first | exact bl0 _ _ | refine blA ?_ _ | (refine blS ?_ ?_ _; (simp <;> omega)) | refine blD ?_ | refine blN ?_ _ | refine blF ?_ ‹_›)
              have ho1 := ho.later hb1
              have hlts := ho.lt
              have hsz1 := hb1.size
              have r0 : w1.cell? ⟨b, off + k * 2, none⟩ = some (.int .i64 xc) := (hb1.cell (p := ⟨b, off + k * 2, none⟩) hbl).trans q0
              have r1 : w1.cell? ⟨b, off + k * 2 + 1, none⟩ = some (.int .i64 xm) := (hb1.cell (p := ⟨b, off + k * 2 + 1, none⟩) hbl).trans q1
              have hbl1 : b < w1.heap.size := Nat.lt_of_lt_of_le hbl hb1.size
              have r2 : w1.cell? ⟨b, off + (k - 1) * 2, none⟩ = some (.int .i64 yc) := (hb1.cell (p := ⟨b, off + (k - 1) * 2, none⟩) hbl).trans y0
              clear y0 y1
              clear hb1 q0 q1
              go_wp2
              go_quiet ((go_at_call 38; exact Calls.quiet_of_same (stl (l6In_r _ _ _ _))))
              have hX1 : Bk (w1.alloc (.cells #[.int .i64 (inpOf xc).s, .int .i64 (inpOf xc).p, .bool (inpOf xc).z] 68)) w1.heap.size 68 #[.int .i64 (inpOf xc).s, .int .i64 (inpOf xc).p, .bool (inpOf xc).z] := Bk.new _ _ _ rfl
              clear e1 hrg
              generalize inpOf xc = xi at *
              go_wp2
              go_loopw [4, 8] (fun v kk wi => ∃ j : Nat, (j : Int) ≤ xm ∧ kk = .int .i64 j ∧ Own wi w.heap.size 68 3 encInp v (outTo ps k ++ List.replicate j xi) ∧ v.ownBlock ≠ some w1.heap.size ∧ Bk wi w1.heap.size 68 #[.int .i64 xi.s, .int .i64 xi.p, .bool xi.z] ∧ Below w.heap.size w wi) (fun _ kk _ => (xm - intOf kk).toNat)
              case atStart => exact ⟨0, by omega, rfl, by rw [List.replicate_zero, List.append_nil]; exact ((ho1.alloc _).drewN _), (by intro e; have := (hlts _ e).2; omega), hX1.drewN _, by (with_reducible repeat first | exact bl0 _ _ | refine blA ?_ _ | (refine blS ?_ ?_ _; (simp <;> omega)) | refine blD ?_ | refine blN ?_ _ | refine blF ?_ ‹_›)⟩
              case round =>
                obtain ⟨j, hj, rfl, hoj, hvn, hX, hbj⟩ := hrel
                have s1 : wr.cell? ⟨b, off + k * 2 + 1, none⟩ = some (.int .i64 xm) := (hbj.cell (p := ⟨b, off + k * 2 + 1, none⟩) hbw).trans w1q
                have hblr : b < wr.heap.size := Nat.lt_of_lt_of_le hbw hbj.size
                have hXl := hX.lt
                obtain ⟨⟨x0, x1, x2⟩, xf⟩ := hX.c3
                clear hX1 r0 r1 ho1 ho
                have hjl : (outTo ps k ++ List.replicate j xi).length ≤ 60 := by rw [List.length_append, List.length_replicate]; omega
                by_cases hjm : (j : Int) < xm
                · have hrlt := hoj.lt
                  have hbs := hbj.size
                  go_wp2_with (at_builtin; refine wp_appL rfl _ _ 28 rfl w.heap.size 68 i0 (.agg #[.int .i64 0, .int .i64 0, .bool false]) 3 24 Tryd.underlying28 hi hz0 hz1 hz2 rfl (by decide) encInp_len one_inp _ _ [xi] rfl (hoj.alloc _) _ 1 1 rfl (Sl.one _ xi _ _ rfl) (by intro e; cases e) (by unfold maxLen; omega) (by omega) (by simp; omega) ?_; intro v2 w2 ho2 hg2 hl2)
                  case roundEnd =>
                    have hX2 : Bk w2 w1.heap.size 68 #[.int .i64 xi.s, .int .i64 xi.p, .bool xi.z] := (hX.alloc _).grown hg2 (Ne.symm hvn)
                    have hb2 : Below w.heap.size w w2 := (below_alloc hbj _).grown hg2 (by simp; omega) (by intro g e; exact (hrlt _ e).1)
                    have hv2 : v2.ownBlock ≠ some w1.heap.size := by
                      intro e
                      rcases hl2 with e2 | e2 <;> rw [e2] at e
                      · exact hvn e
                      · simp at e; omega
                    go_roundw
                    case rel => exact ⟨j + 1, by omega, by go_num, by rw [List.replicate_succ', ← List.append_assoc]; exact ho2, hv2, hX2, hb2⟩
                    case measure => simp [intOf]; omega
                · have hjx : xm.toNat = j := by omega
                  clear x0 x1 x2 xf
                  go_wp2
                  case roundEnd =>
                    go_roundw
                    case rel => exact ⟨k + 1, by omega, by go_num, good_succ HG.out hgo.out, by rw [HO.out, hjx]; exact hoj, hbj⟩
                    case measure => simp [intOf]; omega
            · have hz : True := trivial
              have hbad : Hid (goodParts ps = false) := Lib.hid (goodParts_no hlt (by rw [HB.out, hco, hrg, hk1, HY.out]; simp only; rw [hq]; rfl))
              have hin : Hid (inputsOf ps = []) := Lib.hid (by unfold inputsOf; rw [hbad.out]; rfl)
              rw [hbad.out, hin.out]
              go_wp2_with fail
              refine (specInputOf_any xc _).mono ?_
              rintro e w1 ⟨rfl, hb1⟩
              have hd1 : Below w.heap.size w w1 := by (with_reducible repeat first | exact bl0 _ _ | refine blA ?_ _ | (refine blS ?_ ?_ _; (simp <;> omega)) | refine blD ?_ | refine blN ?_ _ | refine blF ?_ ‹_›)
              have ho1 := ho.later hb1
              have hlts := ho.lt
              have hsz1 := hb1.size
              have r0 : w1.cell? ⟨b, off + k * 2, none⟩ = some (.int .i64 xc) := (hb1.cell (p := ⟨b, off + k * 2, none⟩) hbl).trans q0
              have r1 : w1.cell? ⟨b, off + k * 2 + 1, none⟩ = some (.int .i64 xm) := (hb1.cell (p := ⟨b, off + k * 2 + 1, none⟩) hbl).trans q1
              have hbl1 : b < w1.heap.size := Nat.lt_of_lt_of_le hbl hb1.size
              have r2 : w1.cell? ⟨b, off + (k - 1) * 2, none⟩ = some (.int .i64 yc) := (hb1.cell (p := ⟨b, off + (k - 1) * 2, none⟩) hbl).trans y0
              clear y0 y1
              clear hb1 q0 q1
              go_wp2
              go_quiet ((go_at_call 38; exact Calls.quiet_of_same (stl (l6In_r _ _ _ _))))
              go_wp2
              have hsz := hd1.size
              exact bodyPost_ret (v := .tuple #[.slice (some ⟨w1.heap.size + 1, 0, none⟩) 0 0, .bool false]) (by simp [results, Tryd.results56, go_sem]) rfl ⟨some ⟨w1.heap.size + 1, 0, none⟩, 0, rfl, Nat.le_refl _, own_nil_inp _ _ _ _ (by simp; omega) (by simp), by (with_reducible repeat first | exact bl0 _ _ | refine blA ?_ _ | (refine blS ?_ ?_ _; (simp <;> omega)) | refine blD ?_ | refine blN ?_ _ | refine blF ?_ ‹_›)⟩
    · have hke : k = ps.length := by omega
      have hgo : Hid (goodParts ps = true) := Lib.hid (goodParts_iff.2 (by rw [← hke]; exact hgood))
      have hin : Hid (inputsOf ps = outTo ps k) := Lib.hid (by unfold inputsOf; rw [hgo.out, hke]; rfl)
      clear h hgood hke
      go_wp2
      refine bodyPost_ret (v := .tuple #[.slice Av (outTo ps k).length cv, .bool true]) (by simp [results, Tryd.results56, go_sem]) rfl ?_
      rw [hgo.out, hin.out]
      exact ⟨Av, cv, rfl, hcv, ho, hb⟩
end Go.Proofs.YtdpoicfciogfnaaDoor

/- slices.Repeat of one input; math/bits.Mul. -/
namespace Go.Proofs.YtdpoicfciogfnaaDoor
open Go.ChangeShapes Go.WideShapes Go.ChangeAt Go.RowKit
set_option maxHeartbeats 1000000 in
theorem bitsMul64_any (x y : Nat) (hx : x < 18446744073709551616) (hy : y < 18446744073709551616) (w : World) :
    Calls Tryd.prog 112 #[.int .u64 x, .int .u64 y] w fun e w' => e = .returned (.tuple #[.int .u64 ((x * y / 18446744073709551616 : Nat) : Int), .int .u64 ((x * y % 18446744073709551616 : Nat) : Int)]) ∧ w' = w := by
  obtain ⟨bd, bt, bw, hhi⟩ := Lib.mul64_hi x y hx hy
  have ba := Lib.half_mul_le (a := x / 4294967296) (b := y / 4294967296) (by omega) (by omega)
  have bb := Lib.half_mul_le (a := x / 4294967296) (b := y % 4294967296) (by omega) (by omega)
  have bc := Lib.half_mul_le (a := x % 4294967296) (b := y / 4294967296) (by omega) (by omega)
  have ba' : x / 4294967296 * (y / 4294967296) < 18446744073709551616 := by omega
  have bb' : x / 4294967296 * (y % 4294967296) < 18446744073709551616 := by omega
  have bc' : x % 4294967296 * (y / 4294967296) < 18446744073709551616 := by omega
  have bh1 : x / 4294967296 * (y / 4294967296) + (x / 4294967296 * (y % 4294967296) + x % 4294967296 * (y % 4294967296) / 4294967296) / 4294967296 < 18446744073709551616 := by omega
  have bh : x / 4294967296 * (y / 4294967296) + (x / 4294967296 * (y % 4294967296) + x % 4294967296 * (y % 4294967296) / 4294967296) / 4294967296 + ((x / 4294967296 * (y % 4294967296) + x % 4294967296 * (y % 4294967296) / 4294967296) % 4294967296 + x % 4294967296 * (y / 4294967296)) / 4294967296 < 18446744073709551616 := by omega
  go_enter Tryd.func112, Tryd.ntmps112
  go_wp2
  simp only [Mul64.maskN x hx, Mul64.maskN y hy, Mul64.divN, Mul64.mulN, Mul64.addN, Mul64.wrapN _ bd, Mul64.wrapN _ bb', Mul64.wrapN _ bt, Mul64.maskN _ bt, Mul64.wrapN _ bc', Mul64.wrapN _ bw, Mul64.wrapN _ ba', Mul64.wrapN _ bh1, Mul64.wrapN _ bh, Mul64.wrapM (x * y)]
  rw [hhi]
  go_ret2
  exact ⟨rfl, rfl⟩
theorem bitsMul_one (y : Nat) (hy : y ≤ 1000) (w : World) :
    Calls Tryd.prog 86 #[.int .u64 1, .int .u64 y] w fun e w' => e = .returned (.tuple #[.int .u64 0, .int .u64 y]) ∧ w = w' := by
  have h := bitsMul64_any 1 y (by omega) (by omega) w
  rw [show 1 * y / 18446744073709551616 = 0 by omega, show 1 * y % 18446744073709551616 = y by omega] at h
  go_enter Tryd.func86, Tryd.ntmps86
  go_wp2_with (go_at_call 112; refine h.mono ?_; rintro e w' ⟨rfl, rfl⟩)
  go_ret2
  exact ⟨rfl, rfl⟩
theorem run_copyN {P : Program} (w : World) (dT sT ty elem : TypeId) (g o dLen dCap : Nat) (a : Addr) (sLen sCap : Nat) (cur : Array Value) (t : TypeId) (cs : List Value) (n sz : Nat)
    (hu : P.underlying dT = some (.slice elem)) (hs : (P.info? elem).map (·.size) = some sz)
    (hg : w.heap[g]? = some (.cells cur t (0, 0))) (hm : Nat.min sLen dLen = n) (hn : cs.length = n * sz)
    (hsrc : ∀ j v, cs[j]? = some v → w.cell? (a.add j) = some v) (hfit : o + cs.length ≤ cur.size) (h1 : ∀ v ∈ cs, v.oneCell' = true) :
    (Builtin.copy_ #[dT, sT] ty #[.slice (some ⟨g, o, none⟩) dLen dCap, .slice (some a) sLen sCap]).run P w =
      .ok (goInt n) (w.setRow g (cur.toList.take o ++ cs ++ cur.toList.drop (o + cs.length)).toArray) := by
  have hl := run_loadCells_list (P := P) w a cs hsrc
  have hst := run_storeCells_at P g o t cs 0 cur w hg (by simpa using hfit) h1
  cases hq : P.info? elem with
  | none => simp [hq] at hs
  | some i =>
    have hi : i.size = sz := by simpa [hq] using hs
    have hm' : min sLen dLen = n := hm
    rw [hn] at hl
    simp [Builtin.copy_, run_underlying hu, Builtin.lenOf, Builtin.firstCells, sizeOf, typeInfo, hq, hi, hm', hl, hst]
theorem wp_copyN {P : Program} {w : World} {o : Oper} {a : Act} {K : Act → World → Prop} {Q : Exit → Act → World → Prop} (d s : Operand) (dT sT : TypeId)
    (ho : o.op = .call { callee := .builtin .copy, args := #[d, s], argTypes := #[dT, sT] }) (elem : TypeId) (sz : Nat) (hu : P.underlying dT = some (.slice elem)) (hsz : (P.info? elem).map (·.size) = some sz)
    (g off dLen dCap : Nat) (ad : Addr) (sLen sCap : Nat) (hd : a.eval d = .slice (some ⟨g, off, none⟩) dLen dCap) (hs : a.eval s = .slice (some ad) sLen sCap)
    (cur : Array Value) (t : TypeId) (hg : w.heap[g]? = some (.cells cur t (0, 0))) (cs : List Value) (n : Nat) (hm : Nat.min sLen dLen = n) (hn : cs.length = n * sz)
    (hsrc : ∀ j v, cs[j]? = some v → w.cell? (ad.add j) = some v) (hfit : off + cs.length ≤ cur.size) (h1 : ∀ v ∈ cs, v.oneCell' = true)
    (h : ∀ w', w'.heap[g]? = some (.cells (cur.toList.take off ++ cs ++ cur.toList.drop (off + cs.length)).toArray t (0, 0)) → Below g w w' → K (a.put o.dst (goInt n)) w') : o.wp P a w K Q := by
  have hrun := run_copyN (P := P) w dT sT o.type elem g off dLen dCap ad sLen sCap cur t cs n sz hu hsz hg hm hn hsrc hfit h1
  unfold Oper.wp
  simp [execOp, ho, resolve, invoke, builtin, hd, hs, hrun, Result.andThen]
  exact h _ (by simpa using setRow_heap w g cur _ t _ hg) (below_setRow (Below.refl _ _) (Nat.le_refl _) _)
theorem wpList_copyN {P : Program} {w : World} {ops : Array Oper} {rest : List Oper} {o : Oper} {a : Act} {Q : Exit → Act → World → Prop} (hgd : o.guard = none) (d s : Operand) (dT sT : TypeId)
    (ho : o.op = .call { callee := .builtin .copy, args := #[d, s], argTypes := #[dT, sT] }) (elem : TypeId) (sz : Nat) (hu : P.underlying dT = some (.slice elem)) (hsz : (P.info? elem).map (·.size) = some sz)
    (g off dLen dCap : Nat) (ad : Addr) (sLen sCap : Nat) (hd : a.eval d = .slice (some ⟨g, off, none⟩) dLen dCap) (hs : a.eval s = .slice (some ad) sLen sCap)
    (cur : Array Value) (t : TypeId) (hg : w.heap[g]? = some (.cells cur t (0, 0))) (cs : List Value) (n : Nat) (hm : Nat.min sLen dLen = n) (hn : cs.length = n * sz)
    (hsrc : ∀ j v, cs[j]? = some v → w.cell? (ad.add j) = some v) (hfit : off + cs.length ≤ cur.size) (h1 : ∀ v ∈ cs, v.oneCell' = true)
    (h : ∀ w', w'.heap[g]? = some (.cells (cur.toList.take off ++ cs ++ cur.toList.drop (off + cs.length)).toArray t (0, 0)) → Below g w w' → wpList P ops Q rest (a.put o.dst (goInt n)) w') : wpList P ops Q (o :: rest) a w :=
  wpList_plain hgd fun _ hK => wp_copyN d s dT sT ho elem sz hu hsz g off dLen dCap ad sLen sCap hd hs cur t hg cs n hm hn hsrc hfit h1 fun w' a b => hK _ _ (h w' a b)
theorem step_copyN {P : Program} {ops : Array Oper} {w : World} {o : Oper} {a : Act} {K : Act → World → Prop} {Q : Exit → Act → World → Prop} {E : Prop} (hgd : o.guard = none) (d s : Operand) (dT sT : TypeId)
    (ho : o.op = .call { callee := .builtin .copy, args := #[d, s], argTypes := #[dT, sT] }) (elem : TypeId) (sz : Nat) (hu : P.underlying dT = some (.slice elem)) (hsz : (P.info? elem).map (·.size) = some sz)
    (g off dLen dCap : Nat) (ad : Addr) (sLen sCap : Nat) (hd : a.eval d = .slice (some ⟨g, off, none⟩) dLen dCap) (hs : a.eval s = .slice (some ad) sLen sCap)
    (cur : Array Value) (t : TypeId) (hg : w.heap[g]? = some (.cells cur t (0, 0))) (cs : List Value) (n : Nat) (hm : Nat.min sLen dLen = n) (hn : cs.length = n * sz)
    (hsrc : ∀ j v, cs[j]? = some v → w.cell? (ad.add j) = some v) (hfit : off + cs.length ≤ cur.size) (h1 : ∀ v ∈ cs, v.oneCell' = true)
    (h : ∀ w', w'.heap[g]? = some (.cells (cur.toList.take off ++ cs ++ cur.toList.drop (off + cs.length)).toArray t (0, 0)) → Below g w w' → K (a.put o.dst (goInt n)) w') :
    if Region.wanted o (yielded ops a.tmps) = true then Oper.wp P o a w K Q else E := by
  have hw : Region.wanted o (yielded ops a.tmps) = true := by simp [Region.wanted, hgd]
  rw [if_pos hw]
  exact wp_copyN d s dT sT ho elem sz hu hsz g off dLen dCap ad sLen sCap hd hs cur t hg cs n hm hn hsrc hfit h1 h
theorem block_of_add (a : Addr) (n : Nat) : (a.add n).block = a.block := by unfold Addr.add; split <;> rfl
def cellsX (x : Inp) (n : Nat) : List Value := (List.replicate n x).flatMap encInp
theorem cellsX_len (x : Inp) (n : Nat) : (cellsX x n).length = n * 3 := by unfold cellsX; rw [flatMap_len encInp_len, List.length_replicate]
theorem cellsX_add (x : Inp) (a b : Nat) : cellsX x (a + b) = cellsX x a ++ cellsX x b := by
  unfold cellsX; rw [← List.replicate_append_replicate, List.flatMap_append]
theorem cellsX_one (x : Inp) : cellsX x 1 = encInp x := by simp [cellsX]
theorem cellsX_one' (x : Inp) (n : Nat) : ∀ v ∈ cellsX x n, v.oneCell' = true := by
  intro u hu
  obtain ⟨y, _, hy⟩ := List.mem_flatMap.1 hu
  exact one_inp y u hy
theorem splice_X (x : Inp) (n k : Nat) (R : List Value) :
    (cellsX x n ++ R).take (n * 3) ++ cellsX x k ++ (cellsX x n ++ R).drop (n * 3 + (cellsX x k).length) = cellsX x (n + k) ++ R.drop (k * 3) := by
  have h1 := cellsX_len x n
  have h2 := cellsX_len x k
  rw [List.take_append_of_le_length (by omega), List.take_of_length_le (by omega), h2, ← h1, List.drop_length_add_append, cellsX_add]
theorem own_of_Bk {w : World} {B g m : Nat} {T : TypeId} {x : Inp} (h : Bk w g T (cellsX x m).toArray) (hB : B ≤ g) (hm : m ≤ maxLen) : Own w B T 3 encInp (.slice (some ⟨g, 0, none⟩) m m) (List.replicate m x) := by
  have hl := cellsX_len x m
  have e : (List.replicate m x).length = m := List.length_replicate
  refine ⟨by rw [e]; exact hl, .inr ⟨g, m, _, by rw [e], hB, h, by omega, hm, by simpa using hl, ?_⟩⟩
  rw [e, List.take_of_length_le (by rw [List.toList_toArray]; omega)]
  rfl
set_option maxRecDepth 100000 in
set_option maxHeartbeats 1000000 in
theorem repeatInp_any (A : Option Addr) (c : Nat) (x : Inp) (m : Nat) (w : World) (h : Sl w 3 encInp A 1 [x]) (hm0 : 1 ≤ m) (hm : m ≤ 60) :
    Calls Tryd.prog 60 #[.slice A 1 c, .int .i64 m] w (RetOwn 68 3 encInp (List.replicate m x) w) := by
  obtain ⟨i0, hi, hz0, hz1, hz2⟩ := info_parts Tryd.infoInp
  have hsz3 : (Tryd.prog.info? 68).map (·.size) = some 3 := by rw [hi]; simp [hz1]
  obtain ⟨b, off, y, rfl, hbl, hy, hc⟩ := h.at_ (k := 0) (by omega)
  have hsrc := h.cells encInp_len (by omega)
  go_enter Tryd.func60, Tryd.ntmps60
  go_wp2_with fail
  refine (bitsMul_one m (by omega) _).mono ?_
  rintro e w' ⟨rfl, rfl⟩
  go_wp2_with (at_make; refine wpList_make_full _ rfl _ _ 28 rfl w.heap.size 68 i0 (.agg #[.int .i64 0, .int .i64 0, .bool false]) 3 Tryd.underlying28 hi hz0 hz1 _ _ _ _ m rfl rfl rfl rfl ?c1 ?c2 ?c3 ?_)
  case c1 => rw [hz2]; omega
  case c2 => unfold maxLen; omega
  case c3 => simp
  · intro w1 ho hg
    have hb0 : Below w.heap.size w w1 := below_of_grown hg (Nat.le_refl _) (by intro k e; cases e)
    rcases ho.2 with ⟨h0, _⟩ | ⟨g, cap, cur, e0, hB0, hcur, hcap, _, hcs, _⟩
    · cases h0
    · injection e0 with e1 e2 e3
      injection e1 with e1
      injection e1 with e1
      subst e1 e3
      clear ho hg e2 hcap hB0
      go_wp2_with (refine wpList_copyN rfl (.tmp 31) (.tmp 32) _ _ rfl _ 3 Tryd.underlying28 hsz3 w.heap.size 0 m m ⟨b, off, none⟩ 1 c rfl rfl cur 68 hcur (encInp x) 1 (Nat.min_eq_left hm0) rfl (by intro j v hv; exact (hb0.cell (p := (⟨b, off, none⟩ : Addr).add j) (by rw [block_of_add]; exact hbl)).trans (hsrc j v (by simpa using hv))) (by rw [hcs, encInp_len]; omega) (one_inp x) ?_; intro w2 hB2 hbw2)
      have hK2 : Bk w2 w.heap.size 68 (cellsX x 1 ++ cur.toList.drop 3).toArray := by
        rw [cellsX_one]
        have : (cur.toList.take 0 ++ encInp x ++ cur.toList.drop (0 + (encInp x).length)) = encInp x ++ cur.toList.drop 3 := by rw [List.take_zero, List.nil_append, Nat.zero_add, encInp_len]
        rw [← this]; exact hB2
      have hd2 : Below w.heap.size w w2 := hb0.trans (hbw2.mono (Nat.le_refl _))
      have hRl : (cur.toList.drop 3).length = (m - 1) * 3 := by rw [List.length_drop, Array.length_toList, hcs]; omega
      generalize cur.toList.drop 3 = R0 at hK2 hRl
      clear hB2 hbw2 hcs hcur hsrc hc hy h
      go_wp2
      go_loopw [8] (fun i wr => ∃ (n : Nat) (R : List Value), i = .int .i64 n ∧ 1 ≤ n ∧ n ≤ m ∧ R.length = (m - n) * 3 ∧ Bk wr w.heap.size 68 (cellsX x n ++ R).toArray ∧ Below w.heap.size w wr) (fun i _ => m - (intOf i).toNat)
      case atStart => exact ⟨1, R0, rfl, by omega, hm0, hRl, hK2, hd2⟩
      case round =>
        obtain ⟨n, R, rfl, hn1, hnm, hR, hK, hb⟩ := hrel
        clear hK2 hRl hd2
        by_cases hlt : n < m
        · have hltI : (n : Int) < (m : Int) := by omega
          have hne : ¬ m = n := by omega
          have hne2 : ¬ n = m := by omega
          have hKl := hK.lt
          obtain ⟨kk, hkk⟩ : ∃ kk, Nat.min n (m - n) = kk := ⟨_, rfl⟩
          have hkn : kk ≤ n := hkk ▸ Nat.min_le_left _ _
          have hkm : kk ≤ m - n := hkk ▸ Nat.min_le_right _ _
          have hk1 : 1 ≤ kk := by rw [← hkk]; exact Nat.le_min.2 ⟨hn1, by omega⟩
          have hXl := cellsX_len x kk
          have hXn := cellsX_len x n
          have HKK := Lib.hid hkk
          clear hkk
          have hsrcK : Hid (∀ j v, (cellsX x kk)[j]? = some v → wr.drew.cell? ((⟨w.heap.size, 0, none⟩ : Addr).add j) = some v) := Lib.hid (by
            intro j v hv
            have hj := (List.getElem?_eq_some_iff.1 hv).1
            rw [add_plain, Nat.zero_add]
            show wr.cell? _ = _
            rw [hK.cell j]
            have e : cellsX x n = cellsX x kk ++ cellsX x (n - kk) := by rw [← cellsX_add]; congr 1; omega
            simp only [List.getElem?_toArray]
            rw [e, List.append_assoc, List.getElem?_append_left hj]
            exact hv)
          have hfitK : Hid (n * 3 + (cellsX x kk).length ≤ (cellsX x n ++ R).toArray.size) := Lib.hid (by simp only [List.size_toArray, List.length_append]; omega)
          go_wp2
          go_region_law (refine step_copyN rfl (.tmp 41) (.tmp 44) _ _ rfl _ 3 Tryd.underlying28 hsz3 w.heap.size (n * 3) (m - n) (m - n) ⟨w.heap.size, 0, none⟩ n m (by simp [Act.eval, Act.put]) (by simp [Act.eval, Act.put]) _ 68 hK (cellsX x kk) kk HKK.out hXl hsrcK.out hfitK.out (cellsX_one' x kk) ?_; intro w3 hB3 hbw3)
          have hK3 : Bk w3 w.heap.size 68 (cellsX x (n + kk) ++ R.drop (kk * 3)).toArray := by
            rw [← splice_X]
            unfold Bk
            simpa [hXl] using hB3
          have hd3 : Below w.heap.size w w3 := (below_drew hb).trans hbw3
          clear hB3 hbw3 hsrcK hfitK hK
          have e5 : IntKind.i64.wrap ((n : Int) + (kk : Int)) = (n : Int) + (kk : Int) := IntWalk.i64_in _ (by omega)
          simp [Act.put, e5]
          clear e5
          go_wp2
          · go_roundw
            case rel => exact ⟨n + kk, R.drop (kk * 3), by go_num, by omega, by omega, by rw [List.length_drop]; omega, hK3, hd3⟩
            case measure => simp [intOf]; omega
        · have hnm2 : n = m := by omega
          subst hnm2
          have hR0 : R = [] := List.length_eq_zero_iff.1 (by omega)
          subst hR0
          rw [List.append_nil] at hK
          have hO := own_of_Bk (B := w.heap.size) hK (Nat.le_refl _) (by unfold maxLen; omega)
          have hlr : (List.replicate n x).length = n := List.length_replicate
          go_wp2
          exact bodyPost_ret (v := .slice (some ⟨w.heap.size, 0, none⟩) (List.replicate n x).length n) (by simp [results, Tryd.results60, go_sem]) rfl ⟨_, n, rfl, by omega, by rw [hlr]; exact hO, hb⟩
end Go.Proofs.YtdpoicfciogfnaaDoor

/- ReplayInputs: the program's by its contract. Printed by gen/rinpi.py. -/
namespace Go.Proofs.YtdpoicfciogfnaaDoor
open Go.ChangeShapes Go.WideShapes Go.ChangeAt Go.RowKit
theorem Sl.inp1 (w : World) (T : TypeId) (x : Inp) {g : Nat} (hg : w.heap.size = g) : Sl (w.alloc (.cells #[.int .i64 x.s, .int .i64 x.p, .bool x.z] T)) 3 encInp (some ⟨g, 0, none⟩) 1 [x] := hg ▸ Sl.one w x T _ rfl
set_option maxRecDepth 100000 in
set_option maxHeartbeats 2000000 in
theorem implReplayInputs_any (A : Option Addr) (c : Nat) (ps : List Prt) (w : World) (h : Sl w 2 encPrt A ps.length ps) (hn : ps.length ≤ 9000000000000000000) :
    Calls Tryd.prog 32 #[.slice A ps.length c] w (RetOwnB 68 3 encInp (inputsOf ps) (goodParts ps) w) := by
  obtain ⟨i0, hi, hz0, hz1, hz2⟩ := info_parts Tryd.infoInp
  go_enter Tryd.func32, Tryd.ntmps32
  go_wp2
  go_loopw [4, 11] (fun v i wr => ∃ k : Nat, k ≤ ps.length ∧ i = .int .i64 k ∧ (∀ j, j < k → badP ps j = false) ∧ Own wr w.heap.size 68 3 encInp v (outTo ps k) ∧ Below w.heap.size w wr) (fun _ i _ => ps.length - (intOf i).toNat)
  case atStart => exact ⟨0, Nat.zero_le _, rfl, fun j hj => by omega, Own.none_, by (with_reducible repeat first | exact bl0 _ _ | refine blA ?_ _ | (refine blS ?_ ?_ _; (simp <;> omega)) | refine blD ?_ | refine blN ?_ _ | refine blF ?_ ‹_›)⟩
  case round =>
    obtain ⟨k, hk, rfl, hgood, ho, hb⟩ := hrel
    have hol := outTo_len hgood hk
    have hof := ho
    obtain ⟨Av, cv, rfl, hcv, _⟩ := ho.form
    by_cases hlt : k < ps.length
    · obtain ⟨b, off, x, rfl, hbw, hx, hcw⟩ := h.at_ hlt
      obtain ⟨w0q, w1q⟩ := prt_at hcw
      have q0 : wr.cell? ⟨b, off + k * 2, none⟩ = some (.int .i64 x.c) := (hb.cell (p := ⟨b, off + k * 2, none⟩) hbw).trans w0q
      have q1 : wr.cell? ⟨b, off + k * 2 + 1, none⟩ = some (.int .i64 x.m) := (hb.cell (p := ⟨b, off + k * 2 + 1, none⟩) hbw).trans w1q
      have hbl : b < wr.heap.size := Nat.lt_of_lt_of_le hbw hb.size
      have HB := Lib.hid (badP_eq hx)
      have HO := Lib.hid (outTo_succ hx)
      have HG := Lib.hid hgood
      have Hx := Lib.hid hx
      clear hgood hcw hx
      obtain ⟨xc, xm⟩ := x
      simp only at q0 q1 w0q w1q HB HO
      have e1 : IntKind.i64.wrap (60 - ((outTo ps k).length : Int)) = 60 - ((outTo ps k).length : Int) := IntWalk.i64_in _ (by omega)
      cases hco : codeOk xc
      · have hz : True := trivial
        have hbad : Hid (goodParts ps = false) := Lib.hid (goodParts_no hlt (by rw [HB.out, hco]; rfl))
        have hin : Hid (inputsOf ps = []) := Lib.hid (by unfold inputsOf; rw [hbad.out]; rfl)
        rw [hbad.out, hin.out]
        go_wp2_with fail
        refine (implInputOf_any xc _).mono ?_
        rintro e w1 ⟨rfl, hb1⟩
        have hP1 : Bk w1 wr.heap.size 49 #[.int .i64 xc, .int .i64 xm] := by (repeat first | (with_reducible first | assumption | exact kN _ _ _ (by simp) | refine kA ?_ _ | refine kD ?_ | refine kW ?_ _ | apply Bk.set' | refine kF ?_ (by simp <;> omega) _ | refine kL ?_ ‹_› | refine kG ?_ ‹_› (by first | omega | simp <;> omega)) | exact ⟨by with_reducible rfl⟩ | exact ⟨by simp⟩)
        have hd1 : Below w.heap.size w w1 := by (with_reducible repeat first | exact bl0 _ _ | refine blA ?_ _ | (refine blS ?_ ?_ _; (simp <;> omega)) | refine blD ?_ | refine blN ?_ _ | refine blF ?_ ‹_›)
        have ho1 := (hof.alloc (.cells #[.int .i64 xc, .int .i64 xm] 49)).later hb1
        have zP := hP1.lt
        obtain ⟨⟨p0, p1⟩, pf⟩ := hP1.c2
        have hbl1 : b < w1.heap.size := by omega
        clear hb1 q0 q1
        go_wp2
        go_quiet (fail)
        go_wp2
        have hsz := hd1.size
        exact bodyPost_ret (v := .tuple #[.slice none 0 0, .bool false]) (by simp [results, Tryd.results32, go_sem]) rfl ⟨none, 0, rfl, Nat.le_refl _, Own.none_, by (with_reducible repeat first | exact bl0 _ _ | refine blA ?_ _ | (refine blS ?_ ?_ _; (simp <;> omega)) | refine blD ?_ | refine blN ?_ _ | refine blF ?_ ‹_›)⟩
      · cases hrg : inR 1 (60 - (outTo ps k).length) xm
        · have hz : True := trivial
          have hbad : Hid (goodParts ps = false) := Lib.hid (goodParts_no hlt (by rw [HB.out, hco, hrg]; rfl))
          have hin : Hid (inputsOf ps = []) := Lib.hid (by unfold inputsOf; rw [hbad.out]; rfl)
          rw [hbad.out, hin.out]
          go_wp2_with fail
          refine (implInputOf_any xc _).mono ?_
          rintro e w1 ⟨rfl, hb1⟩
          have hP1 : Bk w1 wr.heap.size 49 #[.int .i64 xc, .int .i64 xm] := by (repeat first | (with_reducible first | assumption | exact kN _ _ _ (by simp) | refine kA ?_ _ | refine kD ?_ | refine kW ?_ _ | apply Bk.set' | refine kF ?_ (by simp <;> omega) _ | refine kL ?_ ‹_› | refine kG ?_ ‹_› (by first | omega | simp <;> omega)) | exact ⟨by with_reducible rfl⟩ | exact ⟨by simp⟩)
          have hd1 : Below w.heap.size w w1 := by (with_reducible repeat first | exact bl0 _ _ | refine blA ?_ _ | (refine blS ?_ ?_ _; (simp <;> omega)) | refine blD ?_ | refine blN ?_ _ | refine blF ?_ ‹_›)
          have ho1 := (hof.alloc (.cells #[.int .i64 xc, .int .i64 xm] 49)).later hb1
          have zP := hP1.lt
          obtain ⟨⟨p0, p1⟩, pf⟩ := hP1.c2
          have hbl1 : b < w1.heap.size := by omega
          clear hb1 q0 q1
          go_wp2
          go_quiet ((go_at_call 43; exact Calls.quiet_of_same (stl (inRange_r _ _ _ _))))
          go_wp2
          have hsz := hd1.size
          exact bodyPost_ret (v := .tuple #[.slice none 0 0, .bool false]) (by simp [results, Tryd.results32, go_sem]) rfl ⟨none, 0, rfl, Nat.le_refl _, Own.none_, by (with_reducible repeat first | exact bl0 _ _ | refine blA ?_ _ | (refine blS ?_ ?_ _; (simp <;> omega)) | refine blD ?_ | refine blN ?_ _ | refine blF ?_ ‹_›)⟩
        · rcases Nat.eq_zero_or_pos k with hk0 | hk0
          · have hk1 : decide ((0 : Int) < (k : Int)) = false := by simp; omega
            have hk2 : decide (0 < k) = false := by simp; omega
            have HK0 := Lib.hid hk0
            clear hk0
            have hgo : Hid (badP ps k = false) := Lib.hid (by rw [HB.out, hco, hrg, hk2]; rfl)
            obtain ⟨hm0, hm1⟩ := inR_iff.1 hrg
            obtain ⟨M, rfl⟩ := Int.eq_ofNat_of_zero_le (show 0 ≤ xm by omega)
            go_wp2_with fail
            refine (implInputOf_any xc _).mono ?_
            rintro e w1 ⟨rfl, hb1⟩
            have hP1 : Bk w1 wr.heap.size 49 #[.int .i64 xc, .int .i64 (M : Int)] := by (repeat first | (with_reducible first | assumption | exact kN _ _ _ (by simp) | refine kA ?_ _ | refine kD ?_ | refine kW ?_ _ | apply Bk.set' | refine kF ?_ (by simp <;> omega) _ | refine kL ?_ ‹_› | refine kG ?_ ‹_› (by first | omega | simp <;> omega)) | exact ⟨by with_reducible rfl⟩ | exact ⟨by simp⟩)
            have hd1 : Below w.heap.size w w1 := by (with_reducible repeat first | exact bl0 _ _ | refine blA ?_ _ | (refine blS ?_ ?_ _; (simp <;> omega)) | refine blD ?_ | refine blN ?_ _ | refine blF ?_ ‹_›)
            have ho1 := (hof.alloc (.cells #[.int .i64 xc, .int .i64 (M : Int)] 49)).later hb1
            have zP := hP1.lt
            obtain ⟨⟨p0, p1⟩, pf⟩ := hP1.c2
            have hbl1 : b < w1.heap.size := by omega
            clear hb1 q0 q1
            go_wp2
            go_quiet ((go_at_call 43; exact Calls.quiet_of_same (stl (inRange_r _ _ _ _))))
            generalize inpOf xc = xi at *
            have hlto := ho1.lt
            have hs1 := hd1.size
            clear e1 hrg ho hof
            have hML : (List.replicate M xi).length = M := List.length_replicate
            go_wp2_with (first
              | (go_at_call 60; refine (repeatInp_any _ _ xi M _ ?_ (by omega) (by omega)).mono ?_; (exact Sl.inp1 _ _ _ (by simp)); rintro e w3 ⟨A3, c3, rfl, hc3, ho3, hb3⟩; rw [hML] at ho3)
              | (at_builtin; refine wp_appS rfl _ _ 28 rfl w.heap.size 68 i0 (.agg #[.int .i64 0, .int .i64 0, .bool false]) 3 24 Tryd.underlying28 hi hz0 hz1 hz2 rfl (by decide) encInp_len one_inp _ _ (List.replicate M xi) rfl ((((ho1.alloc _).drewN _).alloc _).later hb3) _ _ _ rfl (ho3.sl encInp_len) ho3.none_cap (by unfold maxLen; omega) (by omega) (by have := hb3.size; simp at this; omega) ?_; intro v4 w4 ho4 hg4))
            case roundEnd =>
              have hg5 : w3.grownBy w4 (Value.slice Av (outTo ps k).length cv).ownBlock := hg4
              have hb4 : Below w.heap.size w w4 := (below_after (below_alloc (below_drewN (below_alloc hd1 _) _) _) hb3).grown hg5 (by have := hb3.size; simp at this; omega) (by intro g e; exact (hlto _ e).1)
              go_roundw
              case rel => exact ⟨k + 1, by omega, by go_num, good_succ HG.out hgo.out, by rw [HO.out, Int.toNat_natCast]; exact ho4, hb4⟩
              case measure => simp [intOf]; omega
          · obtain ⟨b2, off2, y, hA2, hbl2, hy, hcy⟩ := (h.below hb).at_ (k := k - 1) (by omega)
            simp only [Option.some.injEq, Addr.mk.injEq, and_true] at hA2
            obtain ⟨rfl, rfl⟩ := hA2
            obtain ⟨y0, y1⟩ := prt_at hcy
            obtain ⟨yc, ym⟩ := y
            simp only at y0 y1
            have hk1 : decide (0 < k) = true := by simpa using hk0
            have hk2 : (0 : Int) < (k : Int) := by omega
            have hk3 : IntKind.i64.wrap ((k : Int) - 1) = (k : Int) - 1 := IntWalk.i64_in _ (by omega)
            have hk4 : ((k : Int) - 1).toNat = k - 1 := by omega
            have hk5 : (0 : Int) ≤ (k : Int) - 1 := by omega
            have hk6 : (k : Int) - 1 < (ps.length : Int) := by omega
            have hk7 : 1 ≤ k := hk0
            have HY := Lib.hid hy
            clear hy hcy
            cases hq : (yc == xc)
            · have hz : True := trivial
              have hgo : Hid (badP ps k = false) := Lib.hid (by rw [HB.out, hco, hrg, hk1, HY.out]; simp only; rw [hq]; rfl)
              obtain ⟨hm0, hm1⟩ := inR_iff.1 hrg
              obtain ⟨M, rfl⟩ := Int.eq_ofNat_of_zero_le (show 0 ≤ xm by omega)
              go_wp2_with fail
              refine (implInputOf_any xc _).mono ?_
              rintro e w1 ⟨rfl, hb1⟩
              have hP1 : Bk w1 wr.heap.size 49 #[.int .i64 xc, .int .i64 (M : Int)] := by (repeat first | (with_reducible first | assumption | exact kN _ _ _ (by simp) | refine kA ?_ _ | refine kD ?_ | refine kW ?_ _ | apply Bk.set' | refine kF ?_ (by simp <;> omega) _ | refine kL ?_ ‹_› | refine kG ?_ ‹_› (by first | omega | simp <;> omega)) | exact ⟨by with_reducible rfl⟩ | exact ⟨by simp⟩)
              have hd1 : Below w.heap.size w w1 := by (with_reducible repeat first | exact bl0 _ _ | refine blA ?_ _ | (refine blS ?_ ?_ _; (simp <;> omega)) | refine blD ?_ | refine blN ?_ _ | refine blF ?_ ‹_›)
              have ho1 := (hof.alloc (.cells #[.int .i64 xc, .int .i64 (M : Int)] 49)).later hb1
              have zP := hP1.lt
              obtain ⟨⟨p0, p1⟩, pf⟩ := hP1.c2
              have hbl1 : b < w1.heap.size := by omega
              have r2 : w1.cell? ⟨b, off + (k - 1) * 2, none⟩ = some (.int .i64 yc) := (hb1.cell (p := ⟨b, off + (k - 1) * 2, none⟩) (by simp; omega)).trans ((World.cell?_alloc_lt wr _ ⟨b, off + (k - 1) * 2, none⟩ hbl).trans y0)
              clear y0 y1
              clear hb1 q0 q1
              go_wp2
              go_quiet ((go_at_call 43; exact Calls.quiet_of_same (stl (inRange_r _ _ _ _))))
              generalize inpOf xc = xi at *
              have hlto := ho1.lt
              have hs1 := hd1.size
              clear e1 hrg ho hof
              have hML : (List.replicate M xi).length = M := List.length_replicate
              go_wp2_with (first
                | (go_at_call 60; refine (repeatInp_any _ _ xi M _ ?_ (by omega) (by omega)).mono ?_; (exact Sl.inp1 _ _ _ (by simp)); rintro e w3 ⟨A3, c3, rfl, hc3, ho3, hb3⟩; rw [hML] at ho3)
                | (at_builtin; refine wp_appS rfl _ _ 28 rfl w.heap.size 68 i0 (.agg #[.int .i64 0, .int .i64 0, .bool false]) 3 24 Tryd.underlying28 hi hz0 hz1 hz2 rfl (by decide) encInp_len one_inp _ _ (List.replicate M xi) rfl ((((ho1.alloc _).drewN _).alloc _).later hb3) _ _ _ rfl (ho3.sl encInp_len) ho3.none_cap (by unfold maxLen; omega) (by omega) (by have := hb3.size; simp at this; omega) ?_; intro v4 w4 ho4 hg4))
              case roundEnd =>
                have hg5 : w3.grownBy w4 (Value.slice Av (outTo ps k).length cv).ownBlock := hg4
                have hb4 : Below w.heap.size w w4 := (below_after (below_alloc (below_drewN (below_alloc hd1 _) _) _) hb3).grown hg5 (by have := hb3.size; simp at this; omega) (by intro g e; exact (hlto _ e).1)
                go_roundw
                case rel => exact ⟨k + 1, by omega, by go_num, good_succ HG.out hgo.out, by rw [HO.out, Int.toNat_natCast]; exact ho4, hb4⟩
                case measure => simp [intOf]; omega
            · have hz : True := trivial
              have hbad : Hid (goodParts ps = false) := Lib.hid (goodParts_no hlt (by rw [HB.out, hco, hrg, hk1, HY.out]; simp only; rw [hq]; rfl))
              have hin : Hid (inputsOf ps = []) := Lib.hid (by unfold inputsOf; rw [hbad.out]; rfl)
              rw [hbad.out, hin.out]
              go_wp2_with fail
              refine (implInputOf_any xc _).mono ?_
              rintro e w1 ⟨rfl, hb1⟩
              have hP1 : Bk w1 wr.heap.size 49 #[.int .i64 xc, .int .i64 xm] := by (repeat first | (with_reducible first | assumption | exact kN _ _ _ (by simp) | refine kA ?_ _ | refine kD ?_ | refine kW ?_ _ | apply Bk.set' | refine kF ?_ (by simp <;> omega) _ | refine kL ?_ ‹_› | refine kG ?_ ‹_› (by first | omega | simp <;> omega)) | exact ⟨by with_reducible rfl⟩ | exact ⟨by simp⟩)
              have hd1 : Below w.heap.size w w1 := by (with_reducible repeat first | exact bl0 _ _ | refine blA ?_ _ | (refine blS ?_ ?_ _; (simp <;> omega)) | refine blD ?_ | refine blN ?_ _ | refine blF ?_ ‹_›)
              have ho1 := (hof.alloc (.cells #[.int .i64 xc, .int .i64 xm] 49)).later hb1
              have zP := hP1.lt
              obtain ⟨⟨p0, p1⟩, pf⟩ := hP1.c2
              have hbl1 : b < w1.heap.size := by omega
              have r2 : w1.cell? ⟨b, off + (k - 1) * 2, none⟩ = some (.int .i64 yc) := (hb1.cell (p := ⟨b, off + (k - 1) * 2, none⟩) (by simp; omega)).trans ((World.cell?_alloc_lt wr _ ⟨b, off + (k - 1) * 2, none⟩ hbl).trans y0)
              clear y0 y1
              clear hb1 q0 q1
              go_wp2
              go_quiet ((go_at_call 43; exact Calls.quiet_of_same (stl (inRange_r _ _ _ _))))
              go_wp2
              have hsz := hd1.size
              exact bodyPost_ret (v := .tuple #[.slice none 0 0, .bool false]) (by simp [results, Tryd.results32, go_sem]) rfl ⟨none, 0, rfl, Nat.le_refl _, Own.none_, by (with_reducible repeat first | exact bl0 _ _ | refine blA ?_ _ | (refine blS ?_ ?_ _; (simp <;> omega)) | refine blD ?_ | refine blN ?_ _ | refine blF ?_ ‹_›)⟩
    · have hke : k = ps.length := by omega
      have hgo : Hid (goodParts ps = true) := Lib.hid (goodParts_iff.2 (by rw [← hke]; exact hgood))
      have hin : Hid (inputsOf ps = outTo ps k) := Lib.hid (by unfold inputsOf; rw [hgo.out, hke]; rfl)
      clear h hgood hke
      go_wp2
      refine bodyPost_ret (v := .tuple #[.slice Av (outTo ps k).length cv, .bool true]) (by simp [results, Tryd.results32, go_sem]) rfl ?_
      rw [hgo.out, hin.out]
      exact ⟨Av, cv, rfl, hcv, ho, hb⟩
end Go.Proofs.YtdpoicfciogfnaaDoor

/- Parts and inputs: the plain laws. No program is named here. -/
namespace Go.Proofs.YtdpoicfciogfnaaDoor
open Go.RowKit
def expC (ps : List Prt) : List Int := ps.flatMap fun p => List.replicate p.m.toNat p.c
/-- Parts, the last one first: none empty, and neighbours have different codes. -/
def Alt : List Prt → Prop
  | [] => True
  | p :: ps => 1 ≤ p.m ∧ (∀ q, ps.head? = some q → q.c ≠ p.c) ∧ Alt ps
theorem bump_alt {R : List Prt} {c : Int} (h : Alt R) : Alt (bump R c) := by
  cases R with
  | nil => exact ⟨Int.le_refl _, fun q hq => (by cases hq), trivial⟩
  | cons p ps =>
    obtain ⟨h1, h2, h3⟩ := h
    rw [bump_cons]
    split
    · exact ⟨by simp only; omega, h2, h3⟩
    · rename_i hne
      exact ⟨Int.le_refl _, fun q hq => by simp only [List.head?_cons, Option.some.injEq] at hq; subst hq; exact hne, h1, h2, h3⟩
theorem bump_exp {R : List Prt} {c : Int} (h : Alt R) : expC (bump R c).reverse = expC R.reverse ++ [c] := by
  cases R with
  | nil => rfl
  | cons p ps =>
    obtain ⟨h1, h2, h3⟩ := h
    rw [bump_cons]
    split
    · rename_i he
      subst he
      have e : (p.m + 1).toNat = p.m.toNat + 1 := by omega
      simp only [expC, List.reverse_cons, List.flatMap_append, List.flatMap_cons, List.flatMap_nil, List.append_nil, e, List.replicate_succ', List.append_assoc]
    · simp only [expC, List.reverse_cons, List.flatMap_append, List.flatMap_cons, List.flatMap_nil, List.append_nil, List.append_assoc]
      rfl
theorem rb_alt : ∀ (cs : List Int) (R : List Prt), Alt R → Alt (cs.foldl bump R) ∧ expC (cs.foldl bump R).reverse = expC R.reverse ++ cs
  | [], R, h => ⟨h, by simp⟩
  | c :: cs, R, h => by
    obtain ⟨h1, h2⟩ := rb_alt cs (bump R c) (bump_alt h)
    refine ⟨h1, ?_⟩
    rw [List.foldl_cons, h2, bump_exp h, List.append_assoc]
    rfl
theorem rparts_alt (l : List Inp) : Alt (rparts l) := (rb_alt _ [] trivial).1
theorem partsOf_exp (l : List Inp) : expC (partsOf l) = l.map code := (rb_alt (l.map code) [] trivial).2
theorem bump_rep {c : Int} : ∀ (n : Nat) (R : List Prt) (m : Int), (List.replicate n c).foldl bump (⟨c, m⟩ :: R) = ⟨c, m + n⟩ :: R
  | 0, R, m => by simp
  | n + 1, R, m => by
    rw [List.replicate_succ, List.foldl_cons, bump_cons, if_pos rfl]
    simp only
    rw [bump_rep n R (m + 1)]
    have : m + 1 + (n : Int) = m + ((n + 1 : Nat) : Int) := by omega
    rw [this]
theorem bump_new {c : Int} {n : Nat} {R : List Prt} (hn : 1 ≤ n) (h : ∀ q, R.head? = some q → q.c ≠ c) : (List.replicate n c).foldl bump R = ⟨c, n⟩ :: R := by
  obtain ⟨m, rfl⟩ : ∃ m, n = m + 1 := ⟨n - 1, by omega⟩
  rw [List.replicate_succ, List.foldl_cons]
  have hb : bump R c = ⟨c, 1⟩ :: R := by
    cases R with
    | nil => rfl
    | cons q qs => rw [bump_cons, if_neg (h q rfl)]
  rw [hb, bump_rep]
  have : (1 : Int) + (m : Int) = ((m + 1 : Nat) : Int) := by omega
  rw [this]
theorem code_inpOf {c : Int} (h : codeOk c = true) : code (inpOf c) = c := by
  simp only [codeOk, Bool.and_eq_true, decide_eq_true_eq] at h
  unfold inpOf
  split
  · simp [code]; omega
  · rw [if_pos (by omega)]
    simp only [code]
    simp
    omega
theorem inpOf_code {x : Inp} (h : inpOk x = true) : inpOf (code x) = x := by
  have h' := inpOk_bd h
  obtain ⟨s, p, z⟩ := x
  simp only at h'
  cases z with
  | true =>
    obtain ⟨_, _, _, _, h5⟩ := h'
    obtain ⟨rfl, rfl⟩ := h5 rfl
    simp [code, inpOf]
  | false =>
    have hc : code ⟨s, p, false⟩ = 3 * p + s + 1 := rfl
    rw [hc]
    unfold inpOf
    rw [if_neg (by omega), if_pos (by omega)]
    have e1 : (3 * p + s + 1) % 3 - 1 = s := by omega
    have e2 : (3 * p + s + 1) / 3 = p := by omega
    rw [e1, e2]
theorem code_ok {x : Inp} (h : inpOk x = true) : codeOk (code x) = true := by
  have h' := inpOk_bd h
  obtain ⟨s, p, z⟩ := x
  simp only at h'
  cases z <;> simp [code, codeOk]
  omega
theorem inpOf_ok (c : Int) (h : codeOk c = true) : inpOk (inpOf c) = true := by
  simp only [codeOk, Bool.and_eq_true, decide_eq_true_eq] at h
  unfold inpOf
  split
  · rfl
  · rw [if_pos (by omega)]
    simp [inpOk]
    omega
/-! ### inputs of parts of inputs -/
theorem outTo_exp (ps : List Prt) (k : Nat) : outTo ps k = (expC (ps.take k)).map inpOf := by
  unfold outTo expC
  rw [List.map_flatMap]
  congr 1
  funext p
  rw [List.map_replicate]
theorem map_inpOf {l : List Inp} (h : ∀ x ∈ l, inpOk x = true) : (l.map code).map inpOf = l := by
  rw [List.map_map]
  have : ∀ x ∈ l, (inpOf ∘ code) x = id x := fun x hx => inpOf_code (h x hx)
  rw [List.map_congr_left this, List.map_id]
theorem alt_at : ∀ {R : List Prt}, Alt R → (∀ p ∈ R, 1 ≤ p.m) ∧ ∀ k p q, R[k]? = some p → R[k + 1]? = some q → q.c ≠ p.c
  | [], _ => ⟨fun p hp => (by cases hp), fun k p q h => (by simp at h)⟩
  | a :: R, h => by
    obtain ⟨h1, h2, h3⟩ := h
    obtain ⟨g1, g2⟩ := alt_at h3
    refine ⟨fun p hp => ?_, fun k p q hp hq => ?_⟩
    · rcases List.mem_cons.1 hp with rfl | hp
      · exact h1
      · exact g1 p hp
    · cases k with
      | zero =>
        simp only [List.getElem?_cons_zero, Option.some.injEq] at hp
        subst hp
        rw [List.getElem?_cons_succ] at hq
        exact h2 q (by rw [List.head?_eq_getElem?]; exact hq)
      | succ k =>
        rw [List.getElem?_cons_succ] at hp hq
        exact g2 k p q hp hq
theorem parts_m {l : List Inp} {p : Prt} (h : p ∈ partsOf l) : 1 ≤ p.m := (alt_at (rparts_alt l)).1 p (by unfold partsOf at h; simpa using h)
theorem parts_ne {l : List Inp} {k : Nat} {p q : Prt} (hp : (partsOf l)[k]? = some p) (hq : (partsOf l)[k + 1]? = some q) : p.c ≠ q.c := by
  unfold partsOf at hp hq
  have hk : k + 1 < (rparts l).length := by
    have := (List.getElem?_eq_some_iff.1 hq).1
    simpa using this
  rw [List.getElem?_reverse (by omega)] at hp
  rw [List.getElem?_reverse (by omega)] at hq
  have e : (rparts l).length - 1 - k = (rparts l).length - 1 - (k + 1) + 1 := by omega
  rw [e] at hp
  exact (alt_at (rparts_alt l)).2 _ _ _ hq hp
theorem exp_len (ps : List Prt) : (expC ps).length = (ps.map fun p => p.m.toNat).sum := by
  unfold expC
  rw [List.length_flatMap]
  congr 1
  apply List.map_congr_left
  intro p _
  rw [List.length_replicate]
theorem exp_take_le (ps : List Prt) (k : Nat) : (expC (ps.take k)).length ≤ (expC ps).length := by
  have h : expC ps = expC (ps.take k) ++ expC (ps.drop k) := by
    unfold expC
    rw [← List.flatMap_append, List.take_append_drop]
  rw [h, List.length_append]
  omega
theorem exp_mem {ps : List Prt} {p : Prt} (h : p ∈ ps) (hm : 1 ≤ p.m) : p.c ∈ expC ps := by
  unfold expC
  rw [List.mem_flatMap]
  exact ⟨p, h, by rw [List.mem_replicate]; exact ⟨by omega, rfl⟩⟩
theorem good_partsOf {l : List Inp} (h : inputsOkB l = true) : goodParts (partsOf l) = true := by
  obtain ⟨hv, hl⟩ := inputsOkB_iff.1 h
  rw [goodParts_iff]
  intro k hk
  have hp : (partsOf l)[k]? = some ((partsOf l)[k]'hk) := List.getElem?_eq_getElem _
  generalize (partsOf l)[k]'hk = p at hp
  have hmem : p ∈ partsOf l := List.mem_of_getElem? hp
  have hm := parts_m hmem
  rw [badP_eq hp]
  have hc : codeOk p.c = true := by
    have := exp_mem hmem hm
    rw [partsOf_exp] at this
    obtain ⟨x, hx, hxc⟩ := List.mem_map.1 this
    rw [← hxc]
    exact code_ok (hv x hx)
  have hlen : (outTo (partsOf l) k).length + p.m.toNat ≤ 60 := by
    have h1 : (outTo (partsOf l) (k + 1)).length ≤ 60 := by
      rw [outTo_exp, List.length_map]
      have := exp_take_le (partsOf l) (k + 1)
      rw [partsOf_exp, List.length_map] at this
      omega
    rw [outTo_succ hp, List.length_append, List.length_replicate] at h1
    exact h1
  have hr : inR 1 (60 - (outTo (partsOf l) k).length) p.m = true := by
    rw [inR_iff]; omega
  rw [hc, hr]
  cases k with
  | zero => rfl
  | succ k =>
    have hq : (partsOf l)[k]? = some ((partsOf l)[k]'(by omega)) := List.getElem?_eq_getElem _
    generalize (partsOf l)[k]'(by omega) = q at hq
    have hne := parts_ne hq hp
    have : (partsOf l)[k + 1 - 1]? = some q := hq
    rw [this]
    simp [hne]
theorem inputs_partsOf {l : List Inp} (h : inputsOkB l = true) : inputsOf (partsOf l) = l := by
  unfold inputsOf
  rw [good_partsOf h, if_pos rfl, outTo_exp, List.take_length, partsOf_exp, map_inpOf (inputsOkB_iff.1 h).1]
theorem partsL_pos {l : List Inp} (h : 0 < (partsL l).length) : inputsOkB l = true ∧ partsL l = partsOf l ∧ 0 < l.length := by
  unfold partsL at *
  cases hi : inputsOkB l with
  | false => rw [hi] at h; simp at h
  | true =>
    rw [hi] at h
    refine ⟨rfl, by simp, ?_⟩
    cases l with
    | nil => simp [partsOf, rparts] at h
    | cons => simp
/-! ### parts of inputs of parts -/
theorem parts_inputs {ps : List Prt} : ∀ k, k ≤ ps.length → (∀ j, j < k → badP ps j = false) → rparts (outTo ps k) = (ps.take k).reverse ∧ (∀ x ∈ outTo ps k, inpOk x = true)
  | 0, _, _ => ⟨by simp [outTo, rparts], by simp [outTo]⟩
  | k + 1, hk, h => by
    obtain ⟨ih, ihv⟩ := parts_inputs k (by omega) fun j hj => h j (by omega)
    have hp : ps[k]? = some (ps[k]'(by omega)) := List.getElem?_eq_getElem _
    generalize ps[k]'(by omega) = p at hp
    have hb := h k (by omega)
    rw [badP_eq hp] at hb
    simp only [Bool.or_eq_false_iff, Bool.not_eq_false'] at hb
    obtain ⟨hc, hr, hne⟩ := hb
    obtain ⟨m1, m2⟩ := inR_iff.1 hr
    refine ⟨?_, fun x hx => ?_⟩
    · rw [outTo_succ hp]
      have e1 : rparts (outTo ps k ++ List.replicate p.m.toNat (inpOf p.c)) = (List.replicate p.m.toNat p.c).foldl bump (rparts (outTo ps k)) := by
        unfold rparts
        rw [List.map_append, List.foldl_append, List.map_replicate, code_inpOf hc]
      rw [e1, ih, bump_new (by omega), List.take_add_one, hp]
      · have e2 : ((p.m.toNat : Nat) : Int) = p.m := by omega
        rw [e2]
        simp
      · intro q hq
        rw [List.head?_reverse, List.getLast?_take] at hq
        split at hq
        · cases hq
        · rename_i hk0
          have hk1 : decide (0 < k) = true := by simp; omega
          rw [hk1] at hne
          have hq' : ps[k - 1]? = some (ps[k - 1]'(by omega)) := List.getElem?_eq_getElem _
          rw [hq'] at hq hne
          simp only [Option.some_or, Option.some.injEq] at hq
          subst hq
          simpa using hne
    · rw [outTo_succ hp, List.mem_append] at hx
      rcases hx with hx | hx
      · exact ihv x hx
      · rw [List.mem_replicate] at hx
        rw [hx.2]
        exact inpOf_ok _ hc
theorem partsL_inputs {ps : List Prt} (h : goodParts ps = true) : partsL (inputsOf ps) = ps ∧ inputsOkB (inputsOf ps) = true ∧ (inputsOf ps).length ≤ 60 := by
  have hg := goodParts_iff.1 h
  obtain ⟨h1, h2⟩ := parts_inputs ps.length (Nat.le_refl _) hg
  have h3 := outTo_len hg (Nat.le_refl _)
  have e : inputsOf ps = outTo ps ps.length := by unfold inputsOf; rw [h, if_pos rfl]
  have hi : inputsOkB (outTo ps ps.length) = true := inputsOkB_iff.2 ⟨h2, h3⟩
  refine ⟨?_, by rw [e]; exact hi, by rw [e]; exact h3⟩
  rw [e]
  unfold partsL
  rw [hi, if_pos rfl]
  unfold partsOf
  rw [h1, List.take_length, List.reverse_reverse]
theorem split_bad {ps : List Prt} {k : Nat} {p : Prt} (hp : ps[k]? = some p) : goodParts (ps.take (k + 1) ++ [⟨p.c, 1⟩] ++ ps.drop (k + 1)) = false := by
  have hk : k < ps.length := (List.getElem?_eq_some_iff.1 hp).1
  have hl : (ps.take (k + 1)).length = k + 1 := by rw [List.length_take]; omega
  refine goodParts_no (k := k + 1) (by simp only [List.length_append, hl, List.length_cons, List.length_nil]; omega) ?_
  have hx : (ps.take (k + 1) ++ [⟨p.c, 1⟩] ++ ps.drop (k + 1))[k + 1]? = some ⟨p.c, 1⟩ := by
    rw [List.append_assoc, List.getElem?_append_right (by omega), hl, Nat.sub_self]
    rfl
  have hy : (ps.take (k + 1) ++ [⟨p.c, 1⟩] ++ ps.drop (k + 1))[k + 1 - 1]? = some p := by
    rw [Nat.add_sub_cancel, List.append_assoc, List.getElem?_append_left (by omega), List.getElem?_take, if_pos (by omega)]
    exact hp
  rw [badP_eq hx, hy]
  simp
theorem parts_one {x : Inp} {n : Nat} (hx : inpOk x = true) (h1 : 1 ≤ n) (h2 : n ≤ 60) : partsL (List.replicate n x) = [⟨code x, n⟩] := by
  have hi : inputsOkB (List.replicate n x) = true := inputsOkB_iff.2 ⟨fun y hy => by rw [(List.mem_replicate.1 hy).2]; exact hx, by rw [List.length_replicate]; exact h2⟩
  unfold partsL
  rw [hi, if_pos rfl]
  unfold partsOf rparts
  rw [List.map_replicate, bump_new h1 (fun q hq => by cases hq)]
  rfl
def sumM (ps : List Prt) : Int := (ps.map (·.m)).sum
theorem sum_toNat : ∀ (ps : List Prt), (∀ p ∈ ps, 1 ≤ p.m) → (((ps.map fun p => p.m.toNat).sum : Nat) : Int) = sumM ps
  | [], _ => rfl
  | p :: ps, h => by
    have h1 := h p (List.mem_cons_self ..)
    have h2 := sum_toNat ps fun q hq => h q (List.mem_cons_of_mem _ hq)
    unfold sumM at *
    simp only [List.map_cons, List.sum_cons]
    rw [Int.natCast_add, h2]
    omega
theorem parts_sum (l : List Inp) : sumM (partsOf l) = l.length := by
  rw [← sum_toNat _ fun p hp => parts_m hp, ← exp_len, partsOf_exp, List.length_map]
theorem sumM_succ {ps : List Prt} {k : Nat} {p : Prt} (hp : ps[k]? = some p) : sumM (ps.take (k + 1)) = sumM (ps.take k) + p.m := by
  unfold sumM
  rw [List.take_add_one, hp]
  simp
end Go.Proofs.YtdpoicfciogfnaaDoor

/- The laws' comparisons of lists: sameInts, sameParts, sameInputs. Printed by gen/same.py. -/
namespace Go.Proofs.YtdpoicfciogfnaaDoor
open Go.ChangeShapes Go.WideShapes Go.ChangeAt Go.RowKit
end Go.Proofs.YtdpoicfciogfnaaDoor
