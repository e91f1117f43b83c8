/- The law FnDivergeCount: its walk. Differences are counted. (Round C) -/
import Derived.Test.YtlegilbiapbfkaaZDvgD
namespace Go.Proofs.Ytlegilbiapbfkaa
open Go.ChangeShapes Go.WideShapes Go.ChangeAt Go.RowKit
set_option maxRecDepth 100000 in
set_option maxHeartbeats 8000000 in
theorem lawDivergeCount (A : Option Addr) (n c : Nat) (l : List Int) (w : World) (h : Sl w 1 encU8 A n l) (hl : ∀ x ∈ l, 0 ≤ x ∧ x < 256) (hn : n ≤ 9223372036854775807) (hnc : n ≤ c) (hc : c ≤ 9223372036854775807) :
    Calls Sq.prog 8 #[.slice A n c] w fun e w' => e = .returned (.bool true) ∧ Below w.heap.size w w' := by
  by_cases h1 : 1048576 < (n : Int)
  · go_enter Sq.func8, Sq.ntmps8
    go_wp2
    go_ret
    exact ⟨rfl, Below.refl _ _⟩
  go_enter Sq.func8, Sq.ntmps8
  go_wp2_with fail
  refine (drawDivergeC_any A n c l _ h hl hn hnc hc).mono ?_
  rintro e w1 ⟨a, b, A1, A2, c1, c2, rfl, -, -, la, lb, hO, hO', d1⟩
  have S1 := hO.sl' encInt_len
  have S2 := hO'.sl' encInt_len
  clear h hl hO hO'
  obtain ⟨d, hd⟩ : ∃ d, firstD a b = d := ⟨_, rfl⟩
  have HD := Lib.hid hd
  obtain ⟨q, hq⟩ : ∃ q, cntD a b = q := ⟨_, rfl⟩
  have HQ := Lib.hid hq
  go_wp2_with fail
  refine (DivergeCount_any A1 A2 a.length b.length c1 c2 a b _ S1 S2 (by omega) (by omega)).mono ?_
  rw [HQ.out]
  rintro e w2 ⟨rfl, hb2⟩
  have d2 : Below w.heap.size w w2 := below_after d1 hb2
  have T1 := S1.below hb2
  have T2 := S2.below hb2
  clear hb2 d1 S1 S2
  go_wp2_with fail
  refine (specDivergeCount_any A1 A2 a.length b.length c1 c2 a b _ T1 T2 (by omega) (by omega)).mono ?_
  rw [HQ.out]
  rintro e w3 ⟨rfl, hb3⟩
  have d3 : Below w.heap.size w w3 := below_after d2 hb3
  have S1 := T1.below hb3
  have S2 := T2.below hb3
  clear hb3 d2 T1 T2
  go_wp2_with fail
  refine (DivergeFirst_any A1 A2 a.length b.length c1 c2 a b _ S1 S2 (by omega) (by omega)).mono ?_
  rw [HD.out]
  rintro e w4 ⟨rfl, hb4⟩
  have d4 : Below w.heap.size w w4 := below_after d3 hb4
  clear hb4 d3 S1 S2
  by_cases hneg : d < 0
  · have hz := cntD_none (a := a) (b := b) (by omega)
    obtain rfl : q = 0 := by omega
    clear hd hq hz
    go_wp2
    go_ret
    exact ⟨rfl, d4⟩
  · obtain ⟨k, rfl⟩ := Int.eq_ofNat_of_zero_le (show 0 ≤ d by omega)
    have hp := cntD_pos hd
    have hq0 : 0 < q := by omega
    have hqk : q + k ≤ (max a.length b.length : Nat) := by omega
    have hm : (if a.length < b.length then (b.length : Int) else (a.length : Int)) = ((max a.length b.length : Nat) : Int) := by split <;> omega
    obtain ⟨m, hm'⟩ : ∃ m, max a.length b.length = m := ⟨_, rfl⟩
    have hm16 : m ≤ 16 := by omega
    rw [hm'] at hm hqk
    have hle : q ≤ (m : Int) - (k : Int) := by omega
    clear hd hq hp hm' hneg hqk
    go_wp2
    go_ret
    exact ⟨rfl, d4⟩
end Go.Proofs.Ytlegilbiapbfkaa
