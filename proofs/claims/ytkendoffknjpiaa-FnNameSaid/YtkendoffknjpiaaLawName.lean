/- The law FnName: verdicts have different names. -/
import Derived.Test.YtkendoffknjpiaaLawVerifyName
import Derived.Test.YtkendoffknjpiaaRdr
namespace Go.Proofs.Ytkendoffknjpiaa
open Go.ChangeShapes Go.WideShapes Go.ChangeAt Go.RowKit
def RetInt (lo hi : Int) (w : World) (e : Ending) (w' : World) : Prop := ∃ x : Int, e = .returned (.int .i64 x) ∧ lo ≤ x ∧ x ≤ hi ∧ Below w.heap.size w w'
theorem drawVerifyName_any (A : Option Addr) (n c : Nat) (l : List Int) (w : World) (h : Sl w 1 encU8 A n l) (hl : ∀ x ∈ l, 0 ≤ x ∧ x < 256) (hn : n ≤ 9223372036854775807) (hnc : n ≤ c) (hc : c ≤ 9223372036854775807) :
    Calls Try.prog 20 #[.slice A n c] w (RetInt (-1) 10 w) := by
  go_enter Try.func20, Try.ntmps20
  go_wp2_with fail
  refine (l6Open_any A n c l _ h hl hn hnc hc).mono ?_
  rintro e w1 ⟨R, rfl, hR, hr, hb1⟩
  go_wp2_with fail
  refine (pick_any R 0 12 _ hr (by omega) (by omega) (by omega)).mono ?_
  rintro e w2 ⟨x, rfl, hx0, hx1, hr2, hg2⟩
  have hx2 : x ≤ 11 := by omega
  have hb2 := hb1.grown hg2 hb1.size (fun k e => by cases e; exact hR)
  clear hr hr2 hg2
  go_wp2
  go_ret
  exact ⟨x - 1, rfl, by omega, by omega, hb2⟩
theorem vname_full {v : Int} (h : 0 ≤ v ∧ v ≤ 9) : (vname v).toList.isEmpty = false := by
  rcases range10 h with rfl | rfl | rfl | rfl | rfl | rfl | rfl | rfl | rfl | rfl <;> decide +kernel
theorem vname_none {v : Int} (h : ¬(0 ≤ v ∧ v ≤ 9)) : (vname v).toList = [] := by
  rw [vname_out h]; decide +kernel
theorem vname_pairs : ∀ a b : Fin 10, a ≠ b → ((vnames.getD a.val ⟨#[]⟩).toList == (vnames.getD b.val ⟨#[]⟩).toList) = false := by decide +kernel
theorem vname_ne {k v : Int} (hk : 0 ≤ k ∧ k ≤ 9) (h : k ≠ v) : ((vname k).toList == (vname v).toList) = false := by
  by_cases hv : 0 ≤ v ∧ v ≤ 9
  · have := vname_pairs ⟨k.toNat, by omega⟩ ⟨v.toNat, by omega⟩ (by intro e; injection e with e; omega)
    unfold vname
    rw [if_pos hk, if_pos hv]
    exact this
  · rw [vname_none hv]
    have := vname_full hk
    cases e : (vname k).toList with
    | nil => rw [e] at this; cases this
    | cons a l => rfl
theorem lawName (A A' : Option Addr) (n n' c c' : Nat) (l : List Int) (w : World) (h : Sl w 1 encU8 A n l) (hl : ∀ x ∈ l, 0 ≤ x ∧ x < 256) (hn : n ≤ 9223372036854775807) (hnc : n ≤ c) (hc : c ≤ 9223372036854775807) (hn' : n' ≤ 9223372036854775807) :
    Calls Try.prog 4 #[.slice A n c, .slice A' n' c'] w fun e w' => e = .returned (.bool true) ∧ Below w.heap.size w w' := by
  by_cases h1 : 1048576 < (n : Int)
  · go_enter Try.func4, Try.ntmps4
    go_wp2
    go_ret
    exact ⟨rfl, Below.refl _ _⟩
  · by_cases h2 : 1048576 < (n' : Int)
    · go_enter Try.func4, Try.ntmps4
      go_wp2
      go_ret
      exact ⟨rfl, Below.refl _ _⟩
    · go_enter Try.func4, Try.ntmps4
      go_wp2_with fail
      refine (drawVerifyName_any A n c l _ h hl hn hnc hc).mono ?_
      rintro e w1 ⟨v, rfl, hv0, hv1, hb1⟩
      go_wp2_with fail
      refine (implVerifyName_any v _).mono ?_
      rintro e w2 ⟨rfl, hb2⟩
      go_wp2_with fail
      refine (specVerifyName_any v _).mono ?_
      rintro e w3 ⟨rfl, hb3⟩
      have hd3 := below_after (below_after hb1 hb2) hb3
      obtain ⟨k, hk, hk1⟩ : ∃ k : Nat, (n' : Int) % 10 = (k : Int) ∧ k < 10 := ⟨n' % 10, by simp, by omega⟩
      clear h hl hb1 hb2 hb3
      by_cases hv : 0 ≤ v ∧ v ≤ 9
      · have hf := vname_full hv
        obtain ⟨hv2, hv3⟩ := hv
        by_cases hkv : (k : Int) = v
        · subst hkv
          go_wp2
          go_ret
          exact ⟨rfl, hd3⟩
        · have hne := vname_ne (k := k) (v := v) ⟨by omega, by omega⟩ hkv
          go_wp2_with (go_at_call 19; refine (implVerifyName_any k _).mono ?_; rintro e w4 ⟨rfl, hb4⟩)
          go_ret
          exact ⟨rfl, below_after hd3 hb4⟩
      · have hf := vname_none hv
        have hkv : ¬ (k : Int) = v := by omega
        have hne := vname_ne (k := k) (v := v) ⟨by omega, by omega⟩ hkv
        have hkl := vname_full (v := k) ⟨by omega, by omega⟩
        rcases (show v < 0 ∨ 9 < v by omega) with hv2 | hv2
        all_goals
          go_wp2_with (go_at_call 19; refine (implVerifyName_any k _).mono ?_; rintro e w4 ⟨rfl, hb4⟩)
          go_ret
          first | exact ⟨rfl, below_after hd3 hb4⟩ | exact ⟨ret_bool (by simp; omega), below_after hd3 hb4⟩
end Go.Proofs.Ytkendoffknjpiaa
