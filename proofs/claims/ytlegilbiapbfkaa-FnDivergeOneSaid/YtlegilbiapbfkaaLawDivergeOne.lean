/- The law FnDivergeOne: its walk. One changed hash is one difference. (Round C) -/
import Derived.Test.YtlegilbiapbfkaaZDvgD
namespace Go.Proofs.Ytlegilbiapbfkaa
open Go.ChangeShapes Go.WideShapes Go.ChangeAt Go.RowKit
theorem int_cell {w : World} {B g cap : Nat} {T : TypeId} {l : List Int} (h : Own w B T 1 encInt (.slice (some ⟨g, 0, none⟩) l.length cap) l) {k : Nat} {x : Int} (hx : l[k]? = some x) : w.cell? ⟨g, k, none⟩ = some (.int .i64 x) ∧ w.frozen? ⟨g, k, none⟩ = false := by
  have hk := (List.getElem?_eq_some_iff.1 hx).1
  have h' : w.ownsRow B T 1 (.slice (some ⟨g, 0, none⟩) l.length cap) l.length (l.flatMap encInt) := h
  obtain ⟨_, f0⟩ := own_slot h' hk 0 (by omega)
  obtain ⟨b, off, y, e, _, hy, hc⟩ := (h.sl' encInt_len).at_ hk
  cases e
  obtain rfl := Option.some.inj (hx.symm.trans hy)
  have := int_at hc
  simp only [Nat.zero_add] at this
  simp only [Nat.mul_one, Nat.add_zero] at f0
  exact ⟨this, f0⟩
set_option maxRecDepth 100000 in
set_option maxHeartbeats 8000000 in
theorem lawDivergeOne (A M : Option Addr) (n nm c cm : Nat) (l : List Int) (w : World) (h : Sl w 1 encU8 A n l) (hl : ∀ x ∈ l, 0 ≤ x ∧ x < 256) (hn : n ≤ 9223372036854775807) (hnc : n ≤ c) (hc : c ≤ 9223372036854775807) :
    Calls Sq.prog 5 #[.slice A n c, .slice M nm cm] w fun e w' => e = .returned (.bool true) ∧ Below w.heap.size w w' := by
  by_cases h1 : 1048576 < (n : Int)
  · go_enter Sq.func5, Sq.ntmps5
    go_wp2
    go_ret
    exact ⟨rfl, Below.refl _ _⟩
  by_cases h2 : 1048576 < (nm : Int)
  · go_enter Sq.func5, Sq.ntmps5
    go_wp2
    go_ret
    exact ⟨rfl, Below.refl _ _⟩
  obtain ⟨i0, hi, hz0, hz1, hz2⟩ := info_parts Sq.infoInt
  go_enter Sq.func5, Sq.ntmps5
  go_wp2_with fail
  refine (drawDiverge_any A n c l _ h hl hn hnc hc).mono ?_
  rintro e w1 ⟨a, b, A1, A2, c1, c2, rfl, hB, -, la, lb, hO, hO', d1⟩
  have S1 := hO.sl' encInt_len
  have S2 := hO'.sl' encInt_len
  have HA := Lib.hid hO.none_cap
  have HB := Lib.hid hB
  clear h hl hO hO' hB
  obtain ⟨d, hd⟩ : ∃ d, firstD a b = d := ⟨_, rfl⟩
  have HD := Lib.hid hd
  clear hd
  go_wp2_with fail
  refine (DivergeFirst_any A1 A2 a.length b.length c1 c2 a b _ S1 S2 (by omega) (by omega)).mono ?_
  rw [HD.out]
  rintro e w2 ⟨rfl, hb2⟩
  have d2 : Below w.heap.size w w2 := below_after d1 hb2
  have T1 := S1.below hb2
  have T2 := S2.below hb2
  clear hb2 d1 S1 S2
  go_wp2_with fail
  refine (specDivergeFirst_any A1 A2 a.length b.length c1 c2 a b _ T1 T2 (by omega) (by omega)).mono ?_
  rw [HD.out]
  rintro e w3 ⟨rfl, hb3⟩
  have d3 : Below w.heap.size w w3 := below_after d2 hb3
  have S1 := T1.below hb3
  clear hb3 d2 T1 T2
  by_cases hpos : a.length = 0
  · have hz : ((a.length : Int) == 0) = true := by rw [beq_iff_eq]; omega
    go_wp2
    go_ret
    exact ⟨rfl, d3⟩
  have hz : ((a.length : Int) == 0) = false := by rw [beq_eq_false_iff_ne]; omega
  obtain ⟨k, hk, hkl⟩ : ∃ k : Nat, (nm : Int) % (a.length : Int) = (k : Int) ∧ k < a.length := ⟨nm % a.length, by simp, Nat.mod_lt _ (by omega)⟩
  obtain ⟨x, hx⟩ : ∃ x, a[k]? = some x := ⟨_, List.getElem?_eq_getElem hkl⟩
  have hxb := HB.out x (List.mem_of_getElem? hx)
  have hne : x + 1 ≠ a.getD k 0 := by
    rw [List.getD_eq_getElem?_getD, hx]
    simp
    omega
  have HF := Lib.hid (firstD_set hkl hne)
  have HC := Lib.hid (cntD_set hkl hne)
  clear hne
  go_wp2_with (at_builtin; refine wp_appL rfl _ _ _ rfl (w3.heap.size) 3 i0 (.int .i64 0) 1 8 (Sq.und Try.underlying22) hi hz0 hz1 hz2 rfl (by decide) encInt_len one_int _ [] a rfl (own_nil_at _ _ _ _ (by simp) rfl) A1 a.length c1 rfl (S1.below (below_alloc (Below.refl _ _) _)) HA.out (by have e0 : ([] : List Int).length = 0 := rfl; unfold maxLen; omega) (by have e0 : ([] : List Int).length = 0 := rfl; omega) (by simp) ?_; intro v4 w4 O4 hg4 hl4; rw [List.nil_append] at O4; obtain ⟨A4, c4, rfl, hc4, -⟩ := O4.form; obtain ⟨g, rfl⟩ : ∃ g, A4 = some ⟨g, 0, none⟩ := (by
    rcases O4.2 with ⟨e1, e2⟩ | ⟨g, cap, cur, e1, _⟩
    · injection e1 with e1 e3 e4; omega
    · injection e1 with e1; exact ⟨g, e1⟩); have hq4 := int_cell O4 hx; obtain ⟨q4, f4⟩ := hq4)
  have hgb := (O4.lt g rfl).1
  have d4 : Below w3.heap.size w3 w4 := (below_alloc (Below.refl _ _) _).grown hg4 (by simp) (fun g e => by cases e; exact Nat.le_refl _)
  obtain ⟨hP, hgP⟩ := O4.put encInt_len k hkl (x + 1)
  simp only [putAll, encInt, Nat.mul_one] at hP hgP
  have d5 : Below w3.heap.size w3 (w4.setCell ⟨g, k, none⟩ (.int .i64 (x + 1))) := d4.setCell (by exact hgb) _
  have S2 : Sl (w4.setCell ⟨g, k, none⟩ (.int .i64 (x + 1))) 1 encInt (some ⟨g, 0, none⟩) a.length (a.set k (x + 1)) := by
    exact hP.sl encInt_len
  have T1 := S1.below d5
  have dd := below_after d3 d5
  clear d4 O4 hP hgP hg4 hl4 S1 hgb
  have ew : IntKind.i64.wrap (x + 1) = x + 1 := IntWalk.i64_in _ (by omega)
  go_wp2_with fail
  refine (DivergeFirst_any A1 (some ⟨g, 0, none⟩) a.length a.length c1 c4 a (a.set k (x + 1)) _ T1 S2 (by omega) (by omega)).mono ?_
  rw [HF.out]
  rintro e w6 ⟨rfl, hb6⟩
  have d6 := below_after dd hb6
  have U1 := T1.below hb6
  have U2 := S2.below hb6
  clear hb6 dd T1 S2 d5
  go_wp2_with fail
  refine (DivergeCount_any A1 (some ⟨g, 0, none⟩) a.length a.length c1 c4 a (a.set k (x + 1)) _ U1 U2 (by omega) (by omega)).mono ?_
  rw [HC.out]
  rintro e w7 ⟨rfl, hb7⟩
  have d7 := below_after d6 hb7
  go_wp2
  go_ret
  exact ⟨rfl, d7⟩
end Go.Proofs.Ytlegilbiapbfkaa
