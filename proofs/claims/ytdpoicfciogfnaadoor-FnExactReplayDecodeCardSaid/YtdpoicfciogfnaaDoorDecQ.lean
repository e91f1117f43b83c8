/- Texts of replays: numerals read back, plain. (Seat D) -/
import Derived.Test.YtdpoicfciogfnaaDoorDecP
namespace Go.Proofs.YtdpoicfciogfnaaDoor
open Go.ChangeShapes Go.WideShapes Go.ChangeAt Go.RowKit
theorem numV_app (W : List UInt8) (x : UInt8) : numV (W ++ [x]) = 10 * numV W + ((x.toNat : Int) - 48) := by
  unfold numV
  rw [List.foldl_append]
  rfl
theorem numV_digits (n : Nat) : numV (Lib.decDigits n) = n := by
  induction n using Nat.strongRecOn with
  | _ n ih =>
    rw [Lib.decDigits]
    split
    · rename_i h
      show 10 * (0 : Int) + (((UInt8.ofNat (48 + n)).toNat : Int) - 48) = n
      rw [ofNat_48 h]; omega
    · rename_i h
      rw [numV_app, ih (n / 10) (by omega), ofNat_48 (by omega)]
      omega
theorem digits_all (n : Nat) : (Lib.decDigits n).all isD = true := by
  rw [List.all_eq_true]
  intro x hx
  have := digits_bd n x hx
  simp [isD]; omega
theorem digits_ne (n : Nat) : Lib.decDigits n ≠ [] := by
  rw [Lib.decDigits]; split <;> simp
theorem digits_len {n : Nat} : ∀ k, n < 10 ^ (k + 1) → (Lib.decDigits n).length ≤ k + 1 := by
  induction n using Nat.strongRecOn with
  | _ n ih =>
    intro k hk
    rw [Lib.decDigits]
    split
    · simp
    · rename_i h
      match k, hk with
      | 0, hk => simp at hk; omega
      | k + 1, hk =>
        have := ih (n / 10) (by omega) k (by rw [Nat.pow_succ] at hk; omega)
        rw [List.length_append]
        simp; omega
/-- A numeral of a number that is not 0 does not begin with '0'. -/
theorem digits_head (n : Nat) (h : 0 < n) : (Lib.decDigits n)[0]? ≠ some 48 := by
  induction n using Nat.strongRecOn with
  | _ n ih =>
    rw [Lib.decDigits]
    split
    · rename_i h10
      intro e
      have e2 : UInt8.ofNat (48 + n) = 48 := by simpa using e
      have := ofNat_48 h10
      rw [e2] at this
      have h48 : (48 : UInt8).toNat = 48 := rfl
      omega
    · rename_i h10
      have hne := digits_ne (n / 10)
      rw [List.getElem?_append_left (List.length_pos_iff.2 hne)]
      exact ih (n / 10) (by omega) (by omega)
theorem numW_digits {n : Nat} (h : n < 10000000) : numW (Lib.decDigits n) = n := by
  unfold numW
  rw [if_pos, numV_digits]
  refine ⟨List.length_pos_iff.2 (digits_ne n), digits_len 6 (by simpa using h), ?_, digits_all n⟩
  rintro ⟨h1, h2⟩
  rcases Nat.eq_zero_or_pos n with h0 | h0
  · subst h0
    rw [Lib.decDigits] at h1
    simp at h1
  · exact digits_head n h0 h2
def int7 (n : Int) : Prop := 0 ≤ n ∧ n < 10000000
theorem numW_itoa {n : Int} (h : int7 n) : numW (Lib.itoa n) = n := by
  obtain ⟨m, rfl⟩ := Int.eq_ofNat_of_zero_le h.1
  rw [Lib.itoa_nonneg]
  exact numW_digits (by have := h.2; omega)
theorem numsOf_itoa : ∀ (l : List Int), (∀ y ∈ l, int7 y) → numsOf (l.map Lib.itoa) = (l, true)
  | [], _ => rfl
  | y :: l, h => by
    have h1 := numW_itoa (h y (by simp))
    have h2 := numsOf_itoa l fun z hz => h z (by simp [hz])
    have h3 := (h y (by simp)).1
    rw [List.map_cons, numsOf, h1, if_neg (by omega), h2]
theorem lineP_line {x : List UInt8} {l : List Int} (hx : ∀ z ∈ x, z ≠ (32 : UInt8)) (h : ∀ y ∈ l, int7 y) : lineP x (x ++ numsB l) = (l, true) := by
  unfold lineP
  rw [cut_line hx (fun y hy => ⟨(h y hy).1, by have := (h y hy).2; omega⟩)]
  simp only [List.tail_cons, List.headD_cons, numsOf_itoa l h]
  simp
theorem unpair_pairs : ∀ ps : List Prt, unpair (pairsOf ps) = ps
  | [] => rfl
  | p :: ps => by
    rw [show pairsOf (p :: ps) = p.c :: p.m :: pairsOf ps from rfl, unpair, unpair_pairs ps]
theorem enc_7 {r : Rep} (h : replayOk r = true) : int7 r.lv ∧ int7 r.pl ∧ int7 r.sc ∧ (∀ y ∈ r.hs, int7 y) ∧ int7 r.tag := by
  simp only [replayOk, Bool.and_eq_true, inR_iff, hashB, List.all_eq_true] at h
  obtain ⟨h1, h2, h3, h4, h5, h6, h7⟩ := h
  refine ⟨⟨by omega, by omega⟩, ⟨by omega, by omega⟩, ⟨by omega, by omega⟩, fun y hy => ?_, ⟨by omega, by omega⟩⟩
  have := h7 y hy
  exact ⟨by omega, by omega⟩
theorem pairs_7 {l : List Inp} (h : ∀ x ∈ l, inpOk x = true) (hl : l.length ≤ 60) : ∀ y ∈ pairsOf (partsOf l), int7 y := by
  intro y hy
  unfold pairsOf at hy
  rw [List.mem_flatMap] at hy
  obtain ⟨q, hq, hy⟩ := hy
  have hm := (rparts_bd l l.length).2
  rw [List.take_length] at hm
  have hq2 := hm q (by unfold partsOf at hq; simpa using hq)
  have h1 := exp_mem hq (parts_m hq)
  rw [partsOf_exp, List.mem_map] at h1
  obtain ⟨x, hx, hc⟩ := h1
  have hx2 := code_ok (h x hx)
  simp only [codeOk, Bool.and_eq_true, decide_eq_true_eq] at hx2
  simp only [List.mem_cons, List.not_mem_nil, or_false] at hy
  rcases hy with rfl | rfl
  · exact ⟨by omega, by omega⟩
  · exact ⟨by omega, by omega⟩
theorem decS_encT {r : Rep} (h : replayOk r = true) : decS (encT r) = some r := by
  obtain ⟨v1, v2, v3, v4, v5⟩ := enc_7 h
  obtain ⟨hvi, hn2, _⟩ := replayOk_bd h
  have hin := inputsOkB_iff.2 ⟨hvi, hn2⟩
  unfold decS
  rw [cut_text h, decL, if_pos rfl, lineP_line (by decide) (by simpa using ⟨v1, v2, v3⟩), lineP_line (by decide) (pairs_7 hvi hn2), lineP_line (by decide) v4, lineP_line (by decide) (by simpa using v5)]
  have hr : readP [r.lv, r.pl, r.sc] (pairsOf (partsOf r.ins)) r.hs [r.tag] = r := by
    unfold readP
    rw [unpair_pairs, inputs_partsOf hin]
    rfl
  have hb : readB ([r.lv, r.pl, r.sc], true) (pairsOf (partsOf r.ins), true) (r.hs, true) ([r.tag], true) = true := by
    simp [readB, pairsOf_len]
  unfold readS
  rw [hb, unpair_pairs, good_partsOf hin, hr, h]
  rfl
end Go.Proofs.YtdpoicfciogfnaaDoor
