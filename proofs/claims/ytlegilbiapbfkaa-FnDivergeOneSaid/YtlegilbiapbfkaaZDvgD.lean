/- Lemmas: DvgD DvgP. -/
import Derived.Test.YtlegilbiapbfkaaDrF
import Derived.Test.YtlegilbiapbfkaaZDvg
import Derived.Test.YtlegilbiapbfkaaZPart
/- Draws of two lists of hashes. (Round C) -/
namespace Go.Proofs.Ytlegilbiapbfkaa
open Go.ChangeShapes Go.WideShapes Go.ChangeAt Go.RowKit
/-- What the draw hands back: two short lists of its own. -/
def RetDv (w : World) (e : Ending) (w' : World) : Prop :=
  ∃ (a b : List Int) (A B : Option Addr) (c c' : Nat), e = .returned (.tuple #[.slice A a.length c, .slice B b.length c']) ∧ hsB a ∧ hsB b ∧ a.length ≤ 7 ∧ b.length ≤ 9 ∧ Own w' w.heap.size 3 1 encInt (.slice A a.length c) a ∧ Own w' w.heap.size 3 1 encInt (.slice B b.length c') b ∧ Below w.heap.size w w'
set_option maxRecDepth 100000 in
set_option maxHeartbeats 2000000 in
theorem drawDiverge_any (A : Option Addr) (n c : Nat) (l : List Int) (w : World) (h : Sl w 1 encU8 A n l) (hl : ∀ x ∈ l, 0 ≤ x ∧ x < 256) (hn : n ≤ 9223372036854775807) (hnc : n ≤ c) (hc : c ≤ 9223372036854775807) :
    Calls Sq.prog 15 #[.slice A n c] w (RetDv w) := by
  obtain ⟨i0, hi, hz0, hz1, hz2⟩ := info_parts Sq.infoInt
  go_enter Sq.func15, Sq.ntmps15
  go_wp2_with fail
  refine (l6Open_n A n c l _ h hl hn hnc hc).mono ?_
  rintro e w1 ⟨R, rfl, hR0, hR1, hb1⟩
  have hRl1 := hR1.lt
  clear h hl
  go_wp2_with fail
  refine (pick_n R 0 8 _ (by (repeat (first | (with_reducible assumption) | (with_reducible refine RdL.alloc ?_ _) | (with_reducible refine RdL.drew ?_) | (with_reducible refine RdL.drewN ?_ _) | (with_reducible refine RdL.far ?_ (by first | omega | (simp; done) | (simp; omega)) _) | (with_reducible refine RdL.later ?_ (by assumption))))) (by omega) (by omega) (by omega)).mono ?_
  rintro e w2 ⟨a2, rfl, a2_0, a2_1, hR2, hg2⟩
  have O2 : Own w2 (R + 1) 3 1 encInt (.slice (some ⟨w1.heap.size, 0, none⟩) 0 0) [] := (own_nil_at w1 (R + 1) w1.heap.size 3 (by omega) rfl).gk hg2 (by omega)
  have d2 : Below w.heap.size w w2 := (below_alloc hb1 _).grown hg2 (by have := hb1.size; simp; omega) (fun g e => by cases e; exact hR0)
  have hs1 := hb1.size
  have hz2' := d2.size
  have hRl2 := hR2.lt
  clear hg2 hb1 hR1
  obtain ⟨K1, rfl⟩ := Int.eq_ofNat_of_zero_le a2_0
  go_wp2
  go_loopw [5, 7] (fun av i wr => ∃ (k : Nat) (xs : List Int), k ≤ K1 ∧ i = .int .i64 k ∧ xs.length = k ∧ hsB xs ∧ Own wr (R + 1) 3 1 encInt av xs ∧ RdL wr R (1 + k) ∧ Below w.heap.size w wr) (fun _ i _ => K1 - (intOf i).toNat)
  case atStart => exact ⟨0, [], Nat.zero_le _, rfl, rfl, (fun x hx => by cases hx), O2, hR2, d2⟩
  case round =>
    obtain ⟨k, xs, hk, rfl, hxl, hB, hO, hR, hd⟩ := hrel
    clear O2 d2 hR2
    obtain ⟨A3, c3, rfl, hc3, hA3⟩ := hO.form
    have hlto := fun g e => (hO.lt g e).1
    have hRl := hR.lt
    have hzd := hd.size
    have HB := Lib.hid hB
    clear hB
    by_cases hlt : k < K1
    · have Hxl := Lib.hid hxl
      have hx7 : xs.length ≤ 6 := by omega
      clear hxl
      go_wp2_with fail
      refine (pick_n R (1 + k) 100 _ hR (by omega) (by omega) (by omega)).mono ?_
      rintro e w3 ⟨q, rfl, q0, q1, hR3, hg3⟩
      have O3 := hO.gk hg3 (by omega)
      have d3 : Below w.heap.size w w3 := hd.grown hg3 hd.size (fun g e => by cases e; exact hR0)
      have hRl3 := hR3.lt
      have hz3 := d3.size
      clear hg3 hO hR hd
      go_wp2_with (at_builtin; (refine wp_appL rfl _ _ _ rfl (R + 1) 3 i0 (.int .i64 0) 1 8 (Sq.und Try.underlying22) hi hz0 hz1 hz2 rfl (by decide) encInt_len one_int _ xs [q] rfl (O3.alloc _) _ 1 1 rfl (Sl.one _ q _ _ rfl) (by intro e; cases e) (by unfold maxLen; omega) (by omega) (by simp; omega) ?_; intro v4 w4 O4 hg4 hl4))
      have d4 : Below w.heap.size w w4 := (below_alloc d3 _).grown hg4 (by simp; omega) (fun g e => by have := hlto g e; omega)
      have hR4 := (hR3.alloc (.cells #[.int .i64 q] 3)).own hg4 (fun g e => by have := hlto g e; omega)
      go_wp2
      go_roundw
      case rel => exact ⟨k + 1, xs ++ [q], by omega, by go_num, by rw [List.length_append, Hxl.out]; rfl, (fun x hx => by
        rcases List.mem_append.1 hx with hx | hx
        · exact HB.out x hx
        · rw [List.mem_singleton] at hx
          subst hx
          omega), O4, hR4, d4⟩
      case measure => simp [intOf]; omega
    · have hx7 : xs.length ≤ 7 := by omega
      have hRm := hR.more (show 1 + k ≤ 8 by omega)
      clear hxl hR hk
      have hsl := hO.sl' encInt_len
      have h100 : xs.length ≤ 100 := by omega
      have HA := Lib.hid hO.none_cap
      go_wp2_with fail
      refine (l92Hashes_any A3 xs.length c3 xs R 8 _ hRm (by omega) hsl HA.out HB.out h100).mono ?_
      rintro e w3 ⟨b1, A4, c4, rfl, hB4, hl4, hO4, hR4, hg4⟩
      have O3 := hO.gk hg4 (by omega)
      have d3 : Below w.heap.size w w3 := hd.grown hg4 hd.size (fun g e => by cases e; exact hR0)
      have hz3 := d3.size
      have HB4 := Lib.hid hB4
      clear hg4 hO hRm hd hB4
      have h101 : b1.length ≤ 100 := by omega
      go_wp2_with fail
      refine (l92Hashes_any A4 b1.length c4 b1 R (8 + 3) _ hR4 (by omega) (hO4.sl' encInt_len) hO4.none_cap HB4.out h101).mono ?_
      rintro e w4 ⟨b2, A5, c5, rfl, hB5, hl5, hO5, hR5, hg5⟩
      have O4 := O3.gk hg5 (by omega)
      have d4 : Below w.heap.size w w4 := d3.grown hg5 d3.size (fun g e => by cases e; exact hR0)
      clear hg5 O3 hR4 hO4 d3
      go_wp2
      refine bodyPost_ret (v := .tuple #[.slice A3 xs.length c3, .slice A5 b2.length c5]) (by simp [results, Try.results15, go_sem]) rfl ⟨xs, b2, A3, A5, c3, c5, rfl, HB.out, hB5, hx7, by omega, O4.mono (by omega), hO5.mono (by omega), d4⟩
set_option maxRecDepth 100000 in
theorem drawDivergeC_any (A : Option Addr) (n c : Nat) (l : List Int) (w : World) (h : Sl w 1 encU8 A n l) (hl : ∀ x ∈ l, 0 ≤ x ∧ x < 256) (hn : n ≤ 9223372036854775807) (hnc : n ≤ c) (hc : c ≤ 9223372036854775807) :
    Calls Sq.prog 17 #[.slice A n c] w (RetDv w) := by
  go_enter Sq.func17, Sq.ntmps17
  go_wp2_with fail
  refine (drawDiverge_any A n c l _ h hl hn hnc hc).mono ?_
  rintro e w1 ⟨a, b, A1, A2, c1, c2, rfl, hB, hB', hl1, hl2, hO, hO', hd⟩
  go_wp2
  refine bodyPost_ret (v := .tuple #[.slice A1 a.length c1, .slice A2 b.length c2]) (by simp [results, Try.results17, go_sem]) rfl ⟨a, b, A1, A2, c1, c2, rfl, hB, hB', hl1, hl2, hO, hO', hd⟩
end Go.Proofs.Ytlegilbiapbfkaa

/- Differences of two lists, plainly. (Round C) -/
namespace Go.Proofs.Ytlegilbiapbfkaa
open Go.ChangeShapes Go.WideShapes Go.ChangeAt Go.RowKit
theorem Sl.cutN {α : Type} {w : World} {sz : Nat} {enc : α → List Value} {A : Option Addr} {n m : Nat} {l : List α} (h : Sl w sz enc A n l) (hm : m ≤ n) : Sl w sz enc A m (l.take m) :=
  ⟨by rw [List.length_take, h.1]; omega, fun hp => by
    obtain ⟨b, off, e, hlt, hc⟩ := h.2 (by omega)
    exact ⟨b, off, e, hlt, fun k x hk => hc k x (by rw [List.getElem?_take] at hk; split at hk; exact hk; cases hk)⟩⟩
theorem fstB_cases (l : List Bool) : (fstB l = -1 ∧ ∀ i, i < l.length → l[i]? = some false) ∨ ∃ k : Nat, fstB l = k ∧ k < l.length ∧ l[k]? = some true ∧ ∀ i, i < k → l[i]? = some false := by
  cases h : l.findIdx? id with
  | none =>
    rw [List.findIdx?_eq_none_iff] at h
    refine .inl ⟨by simp [fstB, List.findIdx?_eq_none_iff.2 h], fun i hi => ?_⟩
    rw [List.getElem?_eq_getElem hi]
    have := h _ (List.getElem_mem hi)
    simpa using this
  | some k =>
    have h' := h
    rw [List.findIdx?_eq_some_iff_getElem] at h
    obtain ⟨hlt, h1, h2⟩ := h
    refine .inr ⟨k, by simp [fstB, h'], hlt, ?_, fun i hi => ?_⟩
    · rw [List.getElem?_eq_getElem hlt]
      simpa using h1
    · rw [List.getElem?_eq_getElem (by omega)]
      have := h2 i hi
      simpa using this
theorem difB_false {a b : List Int} {i : Nat} (h : difB a b i = false) : i < a.length ∧ i < b.length ∧ a[i]? = b[i]? := by
  unfold difB at h
  simp only [Bool.or_eq_false_iff, decide_eq_false_iff_not, Nat.not_le, bne_eq_false_iff_eq, List.getD_eq_getElem?_getD] at h
  obtain ⟨⟨h1, h2⟩, h3⟩ := h
  refine ⟨h1, h2, ?_⟩
  rw [List.getElem?_eq_getElem h1, List.getElem?_eq_getElem h2] at h3 ⊢
  simpa using h3
theorem difB_same {a b : List Int} {i : Nat} (h1 : i < a.length) (h : a[i]? = b[i]?) : difB a b i = false := by
  have h2 : i < b.length := by
    have := List.getElem?_eq_getElem h1
    rw [h] at this
    exact (List.getElem?_eq_some_iff.1 this).1
  unfold difB
  rw [decide_eq_false (by omega), decide_eq_false (by omega), List.getD_eq_getElem?_getD, List.getD_eq_getElem?_getD, h]
  simp
theorem take_of_dif {a b : List Int} {k : Nat} (h : ∀ i, i < k → difB a b i = false) : k ≤ a.length ∧ k ≤ b.length ∧ a.take k = b.take k := by
  have hk : k ≤ a.length ∧ k ≤ b.length := by
    rcases Nat.eq_zero_or_pos k with rfl | hp
    · omega
    · have := difB_false (h (k - 1) (by omega))
      omega
  refine ⟨hk.1, hk.2, List.ext_getElem? fun i => ?_⟩
  rw [List.getElem?_take, List.getElem?_take]
  split
  · exact (difB_false (h i (by assumption))).2.2
  · rfl
/-- The first difference, told. -/
theorem firstD_cases (a b : List Int) : (firstD a b = -1 ∧ a = b) ∨ ∃ k : Nat, firstD a b = k ∧ k ≤ a.length ∧ k ≤ b.length ∧ k < max a.length b.length ∧ a.take k = b.take k ∧ difB a b k = true ∧ ∀ i, i < k → difB a b i = false := by
  rcases fstB_cases (difL a b) with ⟨h1, h2⟩ | ⟨k, h1, h2, h3, h4⟩
  · have hall : ∀ i, i < max a.length b.length → difB a b i = false := fun i hi => by
      have := h2 i (by rw [difL_len]; exact hi)
      rw [difL_at a b hi] at this
      exact Option.some.inj this
    obtain ⟨x, y, z⟩ := take_of_dif hall
    have e : a.length = b.length := by omega
    rw [← e, Nat.max_self, List.take_of_length_le (Nat.le_refl _), e, List.take_of_length_le (Nat.le_refl _)] at z
    exact .inl ⟨h1, z⟩
  · rw [difL_len] at h2
    have hall : ∀ i, i < k → difB a b i = false := fun i hi => by
      have := h4 i hi
      rw [difL_at a b (by omega)] at this
      exact Option.some.inj this
    obtain ⟨x, y, z⟩ := take_of_dif hall
    rw [difL_at a b h2] at h3
    exact .inr ⟨k, h1, x, y, h2, z, Option.some.inj h3, hall⟩
theorem firstD_self (a : List Int) : firstD a a = -1 := firstD_none fun i hi => difB_same (by rw [Nat.max_self] at hi; exact hi) rfl
theorem difB_comm (a b : List Int) (i : Nat) : difB b a i = difB a b i := by
  unfold difB
  have : (b.getD i 0 != a.getD i 0) = (a.getD i 0 != b.getD i 0) := bne_comm
  rw [this, Bool.or_comm (decide (b.length ≤ i))]
theorem difL_comm (a b : List Int) : difL b a = difL a b := by
  unfold difL
  rw [Nat.max_comm]
  exact List.map_congr_left fun i _ => difB_comm a b i
theorem firstD_comm (a b : List Int) : firstD b a = firstD a b := by unfold firstD; rw [difL_comm]
theorem cntD_comm (a b : List Int) : cntD b a = cntD a b := by unfold cntD; rw [difL_comm]
theorem cntD_none {a b : List Int} (h : firstD a b < 0) : cntD a b = 0 := by
  rcases fstB_cases (difL a b) with ⟨_, h2⟩ | ⟨k, h1, _⟩
  · unfold cntD
    have : (difL a b).count true = 0 := by
      rw [List.count_eq_zero]
      intro hm
      obtain ⟨i, hi⟩ := List.getElem?_of_mem hm
      rw [h2 i (List.getElem?_eq_some_iff.1 hi).1] at hi
      cases hi
    omega
  · have : firstD a b = k := h1
    omega
theorem cntD_pos {a b : List Int} {k : Nat} (h : firstD a b = k) : 0 < cntD a b ∧ cntD a b + k ≤ max a.length b.length := by
  rcases fstB_cases (difL a b) with ⟨h1, _⟩ | ⟨j, h1, h2, h3, h4⟩
  · have : firstD a b = -1 := h1
    omega
  · have e : firstD a b = j := h1
    obtain rfl : k = j := by omega
    have h0 : ((difL a b).take k).count true = 0 := by
      rw [List.count_eq_zero]
      intro hm
      obtain ⟨i, hi⟩ := List.getElem?_of_mem hm
      rw [List.getElem?_take] at hi
      split at hi
      · rw [h4 i (by assumption)] at hi
        cases hi
      · cases hi
    have hs : (difL a b).count true = ((difL a b).take k).count true + ((difL a b).drop k).count true := by rw [← List.count_append, List.take_append_drop]
    have hd : ((difL a b).drop k).count true ≤ (difL a b).length - k := Nat.le_trans List.count_le_length (by simp)
    have hp : 0 < (difL a b).count true := List.count_pos_iff.2 (List.mem_of_getElem? h3)
    rw [difL_len] at hd h2
    unfold cntD
    omega
/-- One number changed: one difference. -/
theorem dif_set {a : List Int} {k : Nat} {x : Int} (hk : k < a.length) (hx : x ≠ a.getD k 0) (i : Nat) (hi : i < a.length) : difB a (a.set k x) i = decide (i = k) := by
  by_cases e : i = k
  · subst e
    rw [difB_in (x := a.getD i 0) (y := x) (by rw [List.getD_eq_getElem?_getD, List.getElem?_eq_getElem hi]; rfl) (by rw [List.getElem?_set_self hi])]
    simp
    exact fun h => hx h.symm
  · rw [difB_same hi (by rw [List.getElem?_set_ne (fun h => e h.symm)])]
    simp [e]
theorem firstD_set {a : List Int} {k : Nat} {x : Int} (hk : k < a.length) (hx : x ≠ a.getD k 0) : firstD a (a.set k x) = k :=
  firstD_at (by rw [List.length_set, Nat.max_self]; exact hk) (fun i hi => by rw [dif_set hk hx i (by omega)]; simp; omega) (by rw [dif_set hk hx k hk]; simp)
theorem cntD_set {a : List Int} {k : Nat} {x : Int} (hk : k < a.length) (hx : x ≠ a.getD k 0) : cntD a (a.set k x) = 1 := by
  have hl : difL a (a.set k x) = (List.replicate a.length false).set k true := by
    apply List.ext_getElem?
    intro i
    by_cases hi : i < a.length
    · rw [difL_at _ _ (by rw [List.length_set, Nat.max_self]; exact hi), dif_set hk hx i hi, List.getElem?_set]
      by_cases e : k = i
      · subst e
        simp [hi]
      · have e' : ¬ i = k := fun h => e h.symm
        simp [e, e', hi]
    · rw [List.getElem?_eq_none (by rw [difL_len, List.length_set, Nat.max_self]; omega), List.getElem?_eq_none (by simp; omega)]
  unfold cntD
  rw [hl, List.count_set (by simpa using hk)]
  simp [List.count_replicate]
end Go.Proofs.Ytlegilbiapbfkaa
