/- Texts cut into pieces: the reference's numbers and lines. (Seat D) -/
import Derived.Test.YtdpoicfciogfnaaDoorDecC
namespace Go.Proofs.YtdpoicfciogfnaaDoor
open Go.ChangeShapes Go.WideShapes Go.ChangeAt Go.RowKit
def isD (x : UInt8) : Bool := decide (48 ≤ x.toNat) && decide (x.toNat ≤ 57)
def numV (W : List UInt8) : Int := W.foldl (fun n x => 10 * n + ((x.toNat : Int) - 48)) 0
/-- The number of a word as the reference reads it, or -1. -/
def numW (W : List UInt8) : Int := if 1 ≤ W.length ∧ W.length ≤ 7 ∧ ¬(1 < W.length ∧ W[0]? = some 48) ∧ W.all isD = true then numV W else -1
theorem numV_snoc {W : List UInt8} {k : Nat} {x : UInt8} (h : W[k]? = some x) : numV (W.take (k + 1)) = 10 * numV (W.take k) + ((x.toNat : Int) - 48) := by
  unfold numV
  rw [List.take_add_one, h, List.foldl_append]
  rfl
theorem numV_bd : ∀ (W : List UInt8), W.all isD = true → 0 ≤ numV W ∧ numV W < (10 ^ W.length : Nat) := by
  have key : ∀ (l : List UInt8) (n : Int) (m : Nat), 0 ≤ n → n < (10 ^ m : Nat) → l.all isD = true → 0 ≤ l.foldl (fun n (x : UInt8) => 10 * n + ((x.toNat : Int) - 48)) n ∧ l.foldl (fun n (x : UInt8) => 10 * n + ((x.toNat : Int) - 48)) n < (10 ^ (m + l.length) : Nat) := by
    intro l
    induction l with
    | nil => intro n m h0 h1 _; exact ⟨h0, h1⟩
    | cons x l ih =>
      intro n m h0 h1 h
      simp only [List.all_cons, Bool.and_eq_true, isD, decide_eq_true_eq] at h
      obtain ⟨⟨ha, hb⟩, hl⟩ := h
      have hp : (10 ^ (m + 1) : Nat) = 10 * 10 ^ m := by rw [Nat.pow_succ, Nat.mul_comm]
      have := ih (10 * n + ((x.toNat : Int) - 48)) (m + 1) (by omega) (by rw [hp]; omega) (by simpa [isD] using hl)
      rw [show m + (x :: l).length = m + 1 + l.length by simp; omega]
      exact this
  intro W h
  have := key W 0 0 (by omega) (by decide) h
  simpa [numV] using this
theorem allD_take {W : List UInt8} {k : Nat} {x : UInt8} (h : (W.take k).all isD = true) (hx : W[k]? = some x) (hd : isD x = true) : (W.take (k + 1)).all isD = true := by
  rw [List.take_add_one, hx, List.all_append, h]
  simp [hd]
theorem allD_not {W : List UInt8} {k : Nat} {x : UInt8} (hx : W[k]? = some x) (hd : isD x = false) : W.all isD = false :=
  List.all_eq_false.2 ⟨x, List.mem_of_getElem? hx, by simp [hd]⟩
set_option maxRecDepth 100000 in
set_option maxHeartbeats 2000000 in
theorem l23Number_any (W : List UInt8) (w : World) (hW : W.length ≤ 1048576) :
    Calls Tryd.prog 79 #[.string (st W)] w fun e w' => e = .returned (.int .i64 (numW W)) ∧ Below w.heap.size w w' := by
  have e4 : (st W).size = W.length := st_size W
  by_cases h1 : 1 ≤ W.length ∧ W.length ≤ 7
  · by_cases h2 : 1 < W.length ∧ W[0]? = some 48
    · rw [show numW W = -1 by unfold numW; rw [if_neg]; rintro ⟨_, _, h, _⟩; exact h h2]
      obtain ⟨h2, h3⟩ := h2
      have q := fun w => st_at Tryd.prog 9 Tryd.underlying9 w h3
      have q2 : ∀ w, (Instr.index 9 (.string (st W)) (.int .i64 0)).run Tryd.prog w = .ok (.int .u8 48) w := q
      clear h3 q
      have h1a := h1.1
      have h1b := h1.2
      go_enter Tryd.func79, Tryd.ntmps79
      go_wp2_with (go_at_call 38; refine (l6In_yes _ _ _ _ (by omega)).mono ?_; rintro e w0 ⟨rfl, rfl⟩)
      go_ret
      exact ⟨rfl, Below.refl _ _⟩
    · obtain ⟨h1a, h1b⟩ := h1
      have hn : numW W = if W.all isD = true then numV W else -1 := by
        unfold numW
        by_cases h : W.all isD = true
        · rw [if_pos ⟨h1a, h1b, h2, h⟩, if_pos h]
        · rw [if_neg (fun x => h x.2.2.2), if_neg h]
      obtain ⟨R, hR⟩ : ∃ R, numW W = R := ⟨_, rfl⟩
      rw [hR] at hn
      rw [hR]
      have HN := Lib.hid hn
      clear hn hR
      obtain ⟨x0, hx0⟩ : ∃ x, W[0]? = some x := ⟨_, List.getElem?_eq_getElem h1a⟩
      have q := fun w => st_at Tryd.prog 9 Tryd.underlying9 w hx0
      have q2 : ∀ w, (Instr.index 9 (.string (st W)) (.int .i64 0)).run Tryd.prog w = .ok (.int .u8 x0.toNat) w := q
      have h3 : W.length = 1 ∨ (1 < W.length ∧ x0.toNat ≠ 48) := by
        rcases Nat.lt_or_ge 1 W.length with h | h
        · refine .inr ⟨h, fun e => h2 ⟨h, ?_⟩⟩
          rw [hx0, show x0 = 48 from UInt8.toNat.inj e]
        · exact .inl (by omega)
      clear h2 hx0 q
      have hp : ∀ k, k ≤ 7 → (10 ^ k : Nat) ≤ 10000000 := fun k h => Nat.le_trans (Nat.pow_le_pow_right (by decide) h) (by decide : (10 ^ 7 : Nat) ≤ 10000000)
      have HP := Lib.hid hp
      clear hp
      rcases h3 with h3 | ⟨h3, h4⟩
      all_goals
        try have h5 : (x0.toNat : Int) ≠ 48 := by omega
        try have h6 : ¬ (1 < (W.length : Int)) := by omega
        try have h7 : 1 < (W.length : Int) := by omega
        go_enter Tryd.func79, Tryd.ntmps79
        go_wp2_with (go_at_call 38; refine (l6In_yes _ _ _ _ (by omega)).mono ?_; rintro e w0 ⟨rfl, rfl⟩)
        go_loopw [3, 4] (fun v i wr => ∃ k : Nat, k ≤ W.length ∧ i = .int .i64 k ∧ v = .int .i64 (numV (W.take k)) ∧ (W.take k).all isD = true ∧ Below w.heap.size w wr) (fun _ i _ => W.length - (intOf i).toNat)
        case atStart => exact ⟨0, Nat.zero_le _, rfl, rfl, rfl, Below.refl _ _⟩
        case round =>
          obtain ⟨k, hk, rfl, rfl, hd, hb⟩ := hrel
          by_cases hlt : k < W.length
          · obtain ⟨x, hx⟩ : ∃ x, W[k]? = some x := ⟨_, List.getElem?_eq_getElem hlt⟩
            have q := fun W' => st_at Tryd.prog 9 Tryd.underlying9 W' hx
            have hbd := numV_bd _ hd
            have hpk := HP.out k (by omega)
            rw [List.length_take, Nat.min_eq_left hk] at hbd
            have hx256 := x.toNat_lt
            rcases Nat.lt_or_ge x.toNat 48 with hx1 | hx1
            · have HZ : R = -1 := by rw [HN.out, if_neg]; rw [allD_not hx (by simp [isD]; omega)]; simp
              have hx2 : (x.toNat : Int) < 48 := by omega
              clear hx hd hbd hpk
              go_wp2
              go_ret
              exact ⟨by first | rfl | (rw [HZ]; rfl), hb⟩
            · rcases Nat.lt_or_ge 57 x.toNat with hx3 | hx3
              · have HZ : R = -1 := by rw [HN.out, if_neg]; rw [allD_not hx (by simp [isD]; omega)]; simp
                have hx2 : ¬ (x.toNat : Int) < 48 := by omega
                have hx4 : 57 < (x.toNat : Int) := by omega
                clear hx hd hbd hpk
                go_wp2
                go_ret
                exact ⟨by first | rfl | (rw [HZ]; rfl), hb⟩
              · have hx2 : ¬ (x.toNat : Int) < 48 := by omega
                have hx4 : ¬ 57 < (x.toNat : Int) := by omega
                have HV := Lib.hid (numV_snoc hx)
                have HA := Lib.hid (allD_take hd hx (by simp [isD]; omega))
                obtain ⟨V, hV⟩ : ∃ V, numV (W.take k) = V := ⟨_, rfl⟩
                rw [hV] at HV hbd ⊢
                have hw1 : IntKind.u8.wrap ((x.toNat : Int) - 48) = (x.toNat : Int) - 48 := by rw [IntKind.wrap_u8]; omega
                have hw2 : IntKind.i64.wrap (10 * V) = 10 * V := by rw [IntKind.wrap_i64]; omega
                have hw3 : IntKind.i64.wrap ((x.toNat : Int) - 48) = (x.toNat : Int) - 48 := by rw [IntKind.wrap_i64]; omega
                have hw4 : IntKind.i64.wrap (10 * V + ((x.toNat : Int) - 48)) = 10 * V + ((x.toNat : Int) - 48) := by rw [IntKind.wrap_i64]; omega
                clear hx hd hV
                go_wp2
                go_roundw
                case rel => exact ⟨k + 1, by omega, by go_num, by rw [HV.out], HA.out, hb⟩
                case measure => simp [intOf]; omega
          · obtain rfl : k = W.length := by omega
            rw [List.take_length] at hd ⊢
            have HZ : R = numV W := by rw [HN.out, if_pos hd]
            have hnl : ¬ ((W.length : Int) < (W.length : Int)) := by omega
            clear hd
            go_wp2
            go_ret
            exact ⟨by first | rfl | (rw [HZ]; rfl), hb⟩
  · rw [show numW W = -1 by unfold numW; rw [if_neg]; rintro ⟨h, h', _⟩; exact h1 ⟨h, h'⟩]
    go_enter Tryd.func79, Tryd.ntmps79
    go_wp2_with (go_at_call 38; refine (l6In_no _ _ _ _ (by omega)).mono ?_; rintro e w0 ⟨rfl, rfl⟩)
    go_ret
    exact ⟨rfl, Below.refl _ _⟩
end Go.Proofs.YtdpoicfciogfnaaDoor
