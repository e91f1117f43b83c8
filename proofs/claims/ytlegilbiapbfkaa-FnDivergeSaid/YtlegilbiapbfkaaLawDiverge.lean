/- The law FnDiverge: its walk. Ahead of the first difference everything is equal. (Round C) -/
import Derived.Test.YtlegilbiapbfkaaZDvgD
namespace Go.Proofs.Ytlegilbiapbfkaa
open Go.ChangeShapes Go.WideShapes Go.ChangeAt Go.RowKit
set_option maxRecDepth 100000 in
set_option maxHeartbeats 8000000 in
theorem lawDiverge (A : Option Addr) (n c : Nat) (l : List Int) (w : World) (h : Sl w 1 encU8 A n l) (hl : ∀ x ∈ l, 0 ≤ x ∧ x < 256) (hn : n ≤ 9223372036854775807) (hnc : n ≤ c) (hc : c ≤ 9223372036854775807) :
    Calls Sq.prog 7 #[.slice A n c] w fun e w' => e = .returned (.bool true) ∧ Below w.heap.size w w' := by
  by_cases h1 : 1048576 < (n : Int)
  · go_enter Sq.func7, Sq.ntmps7
    go_wp2
    go_ret
    exact ⟨rfl, Below.refl _ _⟩
  go_enter Sq.func7, Sq.ntmps7
  go_wp2_with fail
  refine (drawDiverge_any A n c l _ h hl hn hnc hc).mono ?_
  rintro e w1 ⟨a, b, A1, A2, c1, c2, rfl, -, -, la, lb, hO, hO', d1⟩
  obtain ⟨_, _, ea, ca, _⟩ := hO.form
  obtain ⟨_, _, eb, cb, _⟩ := hO'.form
  simp only [Value.slice.injEq, true_and] at ea eb
  obtain ⟨rfl, rfl⟩ := ea
  obtain ⟨rfl, rfl⟩ := eb
  have S1 := hO.sl' encInt_len
  have S2 := hO'.sl' encInt_len
  clear h hl hO hO'
  obtain ⟨d, hd⟩ : ∃ d, firstD a b = d := ⟨_, rfl⟩
  have HD := Lib.hid hd
  go_wp2_with fail
  refine (DivergeFirst_any A1 A2 a.length b.length c1 c2 a b _ S1 S2 (by omega) (by omega)).mono ?_
  rw [HD.out]
  rintro e w2 ⟨rfl, hb2⟩
  have d2 : Below w.heap.size w w2 := below_after d1 hb2
  have T1 := S1.below hb2
  have T2 := S2.below hb2
  clear hb2 d1 S1 S2
  go_wp2_with fail
  refine (specDivergeFirst_any A1 A2 a.length b.length c1 c2 a b _ T1 T2 (by omega) (by omega)).mono ?_
  rw [HD.out]
  rintro e w3 ⟨rfl, hb3⟩
  have d3 : Below w.heap.size w w3 := below_after d2 hb3
  have S1 := T1.below hb3
  have S2 := T2.below hb3
  clear hb3 d2 T1 T2
  rcases firstD_cases a b with ⟨e1, rfl⟩ | ⟨k, e1, k1, k2, k3, k4, k5, _⟩
  · obtain rfl : d = -1 := hd.symm.trans e1
    clear hd e1
    go_wp2_with fail
    refine (sameInts_any A1 A2 a.length a.length c1 c2 a a _ S1 S2 (by omega) (by omega)).mono ?_
    rintro e w4 ⟨rfl, hb4⟩
    go_wp2
    go_ret
    exact ⟨ret_bool ((eqL_iff eqInt_iff _ _).2 rfl), below_after d3 hb4⟩
  · obtain rfl : d = k := hd.symm.trans e1
    clear hd e1
    have g1 : ¬ a.length < k := by omega
    have g2 : ¬ b.length < k := by omega
    have kc1 : k ≤ c1 := by omega
    have kc2 : k ≤ c2 := by omega
    have hq := (eqL_iff eqInt_iff _ _).2 k4
    have HQ := Lib.hid hq
    clear hq k4
    go_wp2
    go_region_held3 (fun _ => True) (exact trivial)
      ((go_at_call 16; refine (sameInts_any A1 A2 k k c1 c2 (a.take k) (b.take k) _ ((S1.cutN k1).below (by (repeat (first | (with_reducible assumption) | (with_reducible exact Below.refl _ _) | (with_reducible refine below_alloc ?_ _) | (with_reducible refine below_setCell ?_ ?_ _; (simp <;> omega)) | (with_reducible refine below_drew ?_) | (with_reducible refine below_drewN ?_ _) | (with_reducible refine below_after ?_ (by assumption)))))) ((S2.cutN k2).below (by (repeat (first | (with_reducible assumption) | (with_reducible exact Below.refl _ _) | (with_reducible refine below_alloc ?_ _) | (with_reducible refine below_setCell ?_ ?_ _; (simp <;> omega)) | (with_reducible refine below_drew ?_) | (with_reducible refine below_drewN ?_ _) | (with_reducible refine below_after ?_ (by assumption)))))) (by omega) (by omega)).mono ?_; rw [HQ.out]; rintro e w4 ⟨rfl, hb4⟩))
    have d4 : Below w.heap.size w w4 := below_after (by (repeat (first | (with_reducible assumption) | (with_reducible exact Below.refl _ _) | (with_reducible refine below_alloc ?_ _) | (with_reducible refine below_setCell ?_ ?_ _; (simp <;> omega)) | (with_reducible refine below_drew ?_) | (with_reducible refine below_drewN ?_ _) | (with_reducible refine below_after ?_ (by assumption))))) hb4
    have T1 : Sl w4 1 encInt A1 a.length a := S1.below (below_after (by (repeat (first | (with_reducible assumption) | (with_reducible exact Below.refl _ _) | (with_reducible refine below_alloc ?_ _) | (with_reducible refine below_setCell ?_ ?_ _; (simp <;> omega)) | (with_reducible refine below_drew ?_) | (with_reducible refine below_drewN ?_ _) | (with_reducible refine below_after ?_ (by assumption))))) hb4)
    have T2 : Sl w4 1 encInt A2 b.length b := S2.below (below_after (by (repeat (first | (with_reducible assumption) | (with_reducible exact Below.refl _ _) | (with_reducible refine below_alloc ?_ _) | (with_reducible refine below_setCell ?_ ?_ _; (simp <;> omega)) | (with_reducible refine below_drew ?_) | (with_reducible refine below_drewN ?_ _) | (with_reducible refine below_after ?_ (by assumption))))) hb4)
    clear d3 S1 S2 hb4 g1 g2
    by_cases c1' : k = a.length
    · have f1 : ((k : Int) == (a.length : Int)) = true := by rw [beq_iff_eq]; omega
      clear c1'
      go_wp2
      go_quiet (fail)
      go_wp2
      go_ret
      exact ⟨rfl, by (repeat (first | (with_reducible assumption) | (with_reducible exact Below.refl _ _) | (with_reducible refine below_alloc ?_ _) | (with_reducible refine below_setCell ?_ ?_ _; (simp <;> omega)) | (with_reducible refine below_drew ?_) | (with_reducible refine below_drewN ?_ _) | (with_reducible refine below_after ?_ (by assumption))))⟩
    · have f1 : ((k : Int) == (a.length : Int)) = false := by rw [beq_eq_false_iff_ne]; omega
      by_cases c2' : k = b.length
      · have f2 : ((k : Int) == (b.length : Int)) = true := by rw [beq_iff_eq]; omega
        clear c1' c2'
        go_wp2
        go_quiet (fail)
        go_wp2
        go_ret
        exact ⟨rfl, by (repeat (first | (with_reducible assumption) | (with_reducible exact Below.refl _ _) | (with_reducible refine below_alloc ?_ _) | (with_reducible refine below_setCell ?_ ?_ _; (simp <;> omega)) | (with_reducible refine below_drew ?_) | (with_reducible refine below_drewN ?_ _) | (with_reducible refine below_after ?_ (by assumption))))⟩
      · have f2 : ((k : Int) == (b.length : Int)) = false := by rw [beq_eq_false_iff_ne]; omega
        obtain ⟨bb, off, x, rfl, hbl, hx, hc⟩ := T1.at_ (show k < a.length by omega)
        obtain ⟨bb', off', x', rfl, hbl', hx', hc'⟩ := T2.at_ (show k < b.length by omega)
        have q0 := int_at hc
        have r0 := int_at hc'
        have q : (x != x') = true := by rw [← k5, difB_in hx hx']
        have l1 : k < a.length := by omega
        have l2 : k < b.length := by omega
        clear hc hc' hx hx' T1 T2 k5 c1' c2'
        go_wp2
        go_quiet (fail)
        go_wp2
        go_ret
        exact ⟨rfl, by (repeat (first | (with_reducible assumption) | (with_reducible exact Below.refl _ _) | (with_reducible refine below_alloc ?_ _) | (with_reducible refine below_setCell ?_ ?_ _; (simp <;> omega)) | (with_reducible refine below_drew ?_) | (with_reducible refine below_drewN ?_ _) | (with_reducible refine below_after ?_ (by assumption))))⟩
end Go.Proofs.Ytlegilbiapbfkaa
