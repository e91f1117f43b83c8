/- Draws of hashes: l92Hashes. -/
import Derived.Test.YtdpoicfciogfnaaDoorZDrawL
namespace Go.Proofs.YtdpoicfciogfnaaDoor
open Go.ChangeShapes Go.WideShapes Go.ChangeAt Go.RowKit
def hsB (hs : List Int) : Prop := ∀ x ∈ hs, 0 ≤ x ∧ x ≤ 1000002
def RetHs (m R n : Nat) (w : World) (e : Ending) (w' : World) : Prop :=
  ∃ (hs : List Int) (A : Option Addr) (c : Nat), e = .returned (.slice A hs.length c) ∧ hsB hs ∧ hs.length ≤ m ∧ Own w' w.heap.size 3 1 encInt (.slice A hs.length c) hs ∧ RdL w' R n ∧ w.grownBy w' (some R)
theorem Own.cut {w : World} {B : Nat} {T : TypeId} {g n cap k : Nat} {l : List Int} (h : Own w B T 1 encInt (.slice (some ⟨g, 0, none⟩) n cap) l) (hk : k ≤ n) : Own w B T 1 encInt (.slice (some ⟨g, 0, none⟩) k cap) (l.take k) := by
  obtain ⟨A', c', e, _⟩ := h.form
  have hn : n = l.length := by injection e
  subst hn
  have hl : (l.take k).length = k := by rw [List.length_take]; omega
  have hf : ∀ m : List Int, m.flatMap encInt = m.map fun x => .int .i64 x := fun m => by induction m with | nil => rfl | cons x m ih => simp [encInt, ih]
  refine ⟨by rw [flatMap_len encInt_len], ?_⟩
  rcases h.2 with ⟨e1, _⟩ | ⟨g2, cap2, cur, e1, hB, hgg, hc, hm, hs, hx⟩
  · cases e1
  · injection e1 with e1 e2 e3
    cases e1
    subst e3
    refine .inr ⟨g, cap, cur, by rw [hl], hB, hgg, by rw [hl]; omega, hm, hs, ?_⟩
    rw [hl, hf, List.map_take, ← hf, ← hx, List.take_take, Nat.mul_one, Nat.mul_one, Nat.min_eq_left hk]
set_option maxRecDepth 100000 in
set_option maxHeartbeats 2000000 in
theorem l92Hashes_any (A : Option Addr) (m c : Nat) (l : List Int) (R n : Nat) (w : World) (h : RdL w R n) (hn : n ≤ 900000) (hs : Sl w 1 encInt A m l) (hA : A = none → c = 0) (hb : hsB l) (hm : m ≤ 100) :
    Calls Tryd.prog 75 #[.pointer (some ⟨R, 0, none⟩), .slice A m c] w (RetHs (m + 1) R (n + 3) w) := by
  have hRl := h.lt
  obtain rfl := hs.len
  obtain ⟨i0, hi, hz0, hz1, hz2⟩ := info_parts Tryd.infoInt
  have HB := Lib.hid hb
  clear hb
  go_enter Tryd.func75, Tryd.ntmps75
  go_wp2_with (at_builtin; refine wp_appL rfl _ _ _ rfl (w.heap.size) 3 i0 (.int .i64 0) 1 8 Tryd.underlying23 hi hz0 hz1 hz2 rfl (by decide) encInt_len one_int _ [] l rfl (own_nil_at _ _ _ _ (by simp) rfl) A l.length c rfl (hs.below (below_alloc (Below.refl _ _) _)) hA (by have e0 : ([] : List Int).length = 0 := rfl; unfold maxLen; omega) (by have e0 : ([] : List Int).length = 0 := rfl; omega) (by simp) ?_; intro v1 w1 O1 hg1 hl1; rw [List.nil_append] at O1; obtain ⟨A1, cc1, rfl, hc1, _⟩ := O1.form)
  have hd1 : Below w.heap.size w w1 := (below_alloc (Below.refl _ _) _).grown hg1 (by simp) (fun g e => by cases e; exact Nat.le_refl _)
  have hR1 : RdL w1 R n := (h.alloc (.cells #[] 3)).own hg1 (fun g e => by cases e; exact hRl)
  have hgr1 : w.grownBy w1 (some R) := gr_below (grownBy_refl _ _) hd1
  have hz1' := hd1.size
  have hRl1 := hR1.lt
  clear hg1 hl1 hs
  go_wp2_with fail
  refine (pick_n R n 6 _ hR1 (by omega) (by omega) (by omega)).mono ?_
  rintro e w2 ⟨p1, rfl, p1_0, p1_1, hR2, hg2⟩
  have O2 := O1.gk hg2 (by omega)
  have hgr2 : w.grownBy w2 (some R) := by (with_reducible repeat first | assumption | exact grownBy_refl _ _ | refine gr_alloc ?_ _ | refine gr_set (by first | omega | simp <;> omega) ?_ _ | refine gr_drew ?_ | refine gr_drewN ?_ _ | refine gr_after ?_ ‹_› | refine gr_below ?_ ‹_›)
  have hRl2 := hR2.lt
  have hz2' := hg2.size
  have hlto := fun g e => (O2.lt g e).1
  clear hg2 O1 hgr1 hR1
  by_cases c0 : p1 = 0
  · subst c0
    go_wp2_with fail
    refine (pick_n R (n + 1) 100 _ hR2 (by omega) (by omega) (by omega)).mono ?_
    rintro e w3 ⟨q, rfl, q0, q1, hR3, hg3⟩
    have O3 := O2.gk hg3 (by omega)
    have hgr3 : w.grownBy w3 (some R) := by (with_reducible repeat first | assumption | exact grownBy_refl _ _ | refine gr_alloc ?_ _ | refine gr_set (by first | omega | simp <;> omega) ?_ _ | refine gr_drew ?_ | refine gr_drewN ?_ _ | refine gr_after ?_ ‹_› | refine gr_below ?_ ‹_›)
    have hRl3 := hR3.lt
    have hz3' := hg3.size
    clear hg3 O2 hgr2 hR2
    go_wp2_with (at_builtin; refine wp_appL rfl _ _ _ rfl (w.heap.size) 3 i0 (.int .i64 0) 1 8 Tryd.underlying23 hi hz0 hz1 hz2 rfl (by decide) encInt_len one_int _ l [q] rfl (O3.alloc _) _ 1 1 rfl (Sl.one _ q _ _ rfl) (by intro e; cases e) (by unfold maxLen; omega) (by omega) (by simp; omega) ?_; intro v4 w4 O4 hg4 hl4; obtain ⟨A4, c4, rfl, hc4, _⟩ := O4.form)
    refine bodyPost_ret (v := .slice A4 (l ++ [q]).length c4) (by simp [results, Tryd.results75, go_sem]) rfl ⟨l ++ [q], A4, c4, rfl, ?_, by simp, O4, ?_, ?_⟩
    · intro x hx
      rcases List.mem_append.1 hx with hx | hx
      · exact HB.out x hx
      · rw [List.mem_singleton] at hx; subst hx; omega
    · exact ((hR3.alloc _).own hg4 (fun g e => by have := hlto g e; omega)).more (by omega)
    · exact gr_own (gr_alloc hgr3 _) hg4 (fun g e => hlto g e)
  · have cb0 : (p1 == 0) = false := by simpa using c0
    by_cases c1 : p1 = 1
    · subst c1
      have e3 : IntKind.i64.wrap ((l.length : Int) + 1) = (l.length : Int) + 1 := IntWalk.i64_in _ (by omega)
      go_wp2_with fail
      refine (pick_n R (n + 1) ((l.length : Int) + 1) _ hR2 (by omega) (by omega) (by omega)).mono ?_
      rintro e w3 ⟨qz, rfl, q0, q1, hR3, hg3⟩
      obtain ⟨k, rfl⟩ := Int.eq_ofNat_of_zero_le q0
      have O3 := O2.gk hg3 (by omega)
      have hgr3 : w.grownBy w3 (some R) := by (with_reducible repeat first | assumption | exact grownBy_refl _ _ | refine gr_alloc ?_ _ | refine gr_set (by first | omega | simp <;> omega) ?_ _ | refine gr_drew ?_ | refine gr_drewN ?_ _ | refine gr_after ?_ ‹_› | refine gr_below ?_ ‹_›)
      clear hg3 O2 hgr2 hR2
      have k1 : k ≤ l.length := by omega
      have k2 : (k : Int) ≤ (cc1 : Int) := by omega
      have k3 : (0 : Int) ≤ (k : Int) := by omega
      have k4 : k ≤ cc1 := by omega
      have hlk : (l.take k).length = k := by rw [List.length_take]; omega
      rcases O3.2 with ⟨e1, e2⟩ | ⟨g, cap, cur, e1, _⟩
      · injection e1 with e1 e4 e5
        subst e1
        have hl0 : l = [] := List.eq_nil_of_length_eq_zero e4
        have hk0 : k = 0 := by omega
        subst hk0
        subst e5
        clear hlk
        go_wp2
        exact bodyPost_ret (v := .slice none 0 0) (by simp [results, Tryd.results75, go_sem]) rfl ⟨[], none, 0, rfl, (fun x hx => by cases hx), by simp, Own.none_, hR3.more (by omega), hgr3⟩
      · injection e1 with e1 e4 e5
        subst e1
        have hP := O3.cut (k := k) k1
        clear e4 e5
        go_wp2
        refine bodyPost_ret (v := .slice (some ⟨g, 0, none⟩) k cc1) (by simp [results, Tryd.results75, go_sem]) rfl ⟨l.take k, some ⟨g, 0, none⟩, cc1, by rw [hlk], fun x hx => HB.out x (List.mem_of_mem_take hx), by rw [hlk]; omega, by rw [hlk]; exact hP, hR3.more (by omega), hgr3⟩
    · have cb1 : (p1 == 1) = false := by simpa using c1
      by_cases c2 : p1 = 2 ∨ p1 = 3
      · by_cases hpos : (0 : Int) < (l.length : Int)
        · rcases c2 with rfl | rfl
          all_goals
            go_wp2_with fail
            refine (pick_n R (n + 1) (l.length : Int) _ hR2 (by omega) (by omega) (by omega)).mono ?_
            rintro e w3 ⟨kz, rfl, k0, k1, hR3, hg3⟩
            obtain ⟨k, rfl⟩ := Int.eq_ofNat_of_zero_le k0
            have O3 := O2.gk hg3 (by omega)
            have hgr3 : w.grownBy w3 (some R) := by (with_reducible repeat first | assumption | exact grownBy_refl _ _ | refine gr_alloc ?_ _ | refine gr_set (by first | omega | simp <;> omega) ?_ _ | refine gr_drew ?_ | refine gr_drewN ?_ _ | refine gr_after ?_ ‹_› | refine gr_below ?_ ‹_›)
            have hRl3 := hR3.lt
            have hz3' := hg3.size
            clear hg3 O2 hgr2 hR2
            go_wp2_with fail
            refine (pick_n R (n + 1 + 1) 100 _ hR3 (by omega) (by omega) (by omega)).mono ?_
            rintro e w4 ⟨q, rfl, q0, q1, hR4, hg4⟩
            have O4 := O3.gk hg4 (by omega)
            have hgr4 : w.grownBy w4 (some R) := by (with_reducible repeat first | assumption | exact grownBy_refl _ _ | refine gr_alloc ?_ _ | refine gr_set (by first | omega | simp <;> omega) ?_ _ | refine gr_drew ?_ | refine gr_drewN ?_ _ | refine gr_after ?_ ‹_› | refine gr_below ?_ ‹_›)
            have hRl4 := hR4.lt
            have hz4' := hg4.size
            clear hg4 O3 hgr3 hR3
            obtain ⟨g, rfl⟩ : ∃ g, A1 = some ⟨g, 0, none⟩ := by
              rcases O4.2 with ⟨e1, e2⟩ | ⟨g, cap, cur, e1, _⟩
              · omega
              · injection e1 with e1; exact ⟨g, e1⟩
            have hk : k < l.length := by omega
            obtain ⟨⟨y0, r0⟩, f0⟩ := own_slot O4 hk 0 (by omega)
            simp only [Nat.add_zero, Nat.mul_one] at r0 f0
            obtain ⟨hP, hgP⟩ := O4.put encInt_len k hk (100 * q)
            have hgb := (O4.lt g rfl).1
            have hgB := O4.lt g rfl
            have hlen : (l.set k (100 * q)).length = l.length := List.length_set ..
            have hRP := hR4.own hgP (fun g2 e => by cases e; omega)
            have hgrP := gr_own hgr4 hgP (fun g2 e => by cases e; omega)
            simp only [putAll, encInt, Nat.mul_one] at hP hRP hgrP
            go_wp2
            refine bodyPost_ret (v := .slice (some ⟨g, 0, none⟩) l.length cc1) (by simp [results, Tryd.results75, go_sem]) rfl ⟨l.set k (100 * q), some ⟨g, 0, none⟩, cc1, by rw [hlen], ?_, by rw [hlen]; omega, ?_, hRP.more (by omega), hgrP⟩
            · intro y hy
              rcases List.mem_or_eq_of_mem_set hy with hy | rfl
              · exact HB.out y hy
              · omega
            · rw [hlen]
              exact hP
        · rcases c2 with rfl | rfl
          all_goals
            go_wp2
            exact bodyPost_ret (v := .slice A1 l.length cc1) (by simp [results, Tryd.results75, go_sem]) rfl ⟨l, A1, cc1, rfl, HB.out, by omega, O2, hR2.more (by omega), hgr2⟩
      · have cb2 : (p1 == 2) = false := by simp; omega
        have cb3 : (p1 == 3) = false := by simp; omega
        clear c2
        go_wp2
        exact bodyPost_ret (v := .slice A1 l.length cc1) (by simp [results, Tryd.results75, go_sem]) rfl ⟨l, A1, cc1, rfl, HB.out, by omega, O2, hR2.more (by omega), hgr2⟩
end Go.Proofs.YtdpoicfciogfnaaDoor
