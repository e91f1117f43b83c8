/- Texts of replays: the library's Atoi at a numeral; its cut, plain. (Seat D) -/
import Derived.Test.YtdpoicfciogfnaaDoorDecT
import Derived.Lib.AtoiTie
namespace Go.Proofs.YtdpoicfciogfnaaDoor
open Go.ChangeShapes Go.WideShapes Go.ChangeAt Go.RowKit
theorem decFrom_app {x : UInt8} {d : Nat} (hd : Lib.digitVal x = some d) : ∀ (l : List UInt8) (acc n : Nat), Lib.decFrom acc l = some n → Lib.decFrom acc (l ++ [x]) = some (n * 10 + d)
  | [], acc, n, h => by
    simp only [Lib.decFrom, Option.some.injEq] at h
    subst h
    simp [Lib.decFrom, hd]
  | a :: l, acc, n, h => by
    rw [Lib.decFrom] at h
    rw [List.cons_append, Lib.decFrom]
    cases ha : Lib.digitVal a with
    | none => rw [ha] at h; cases h
    | some e =>
      rw [ha] at h
      exact decFrom_app hd l _ n h
theorem digitVal_ofNat {m : Nat} (h : m < 10) : Lib.digitVal (UInt8.ofNat (48 + m)) = some m := by
  unfold Lib.digitVal
  rw [ofNat_48 h, if_pos (by omega)]
  congr 1; omega
theorem decFrom_digits (n : Nat) : Lib.decFrom 0 (Lib.decDigits n) = some n := by
  induction n using Nat.strongRecOn with
  | _ n ih =>
    rw [Lib.decDigits]
    split
    · rename_i h
      simp only [Lib.decFrom, digitVal_ofNat h]
      congr 1; omega
    · rename_i h
      rw [decFrom_app (digitVal_ofNat (by omega : n % 10 < 10)) _ _ _ (ih (n / 10) (by omega))]
      congr 1; omega
theorem atoiAll_itoa {n : Int} (h : int7 n) : Lib.atoiAll (Lib.itoa n) = .ok n := by
  obtain ⟨m, rfl⟩ := Int.eq_ofNat_of_zero_le h.1
  rw [Lib.itoa_nonneg]
  have hm : m < 10 ^ (6 + 1) := by have := h.2; omega
  have hl := digits_len 6 hm
  rw [Lib.atoiAll_short _ (by omega)]
  have hd := decFrom_digits m
  have hb := digits_bd m
  have hne := digits_ne m
  generalize Lib.decDigits m = D at hd hb hne ⊢
  match D, hne with
  | b :: r, _ =>
    have hb0 := hb b (by simp)
    have n1 : (b == 45) = false := by rw [beq_eq_false_iff_ne]; exact ne_of_nat (by show b.toNat ≠ 45; omega)
    have n2 : (b == 43) = false := by rw [beq_eq_false_iff_ne]; exact ne_of_nat (by show b.toNat ≠ 43; omega)
    rw [Lib.atoi, n1, n2]
    simp [Lib.decNat, hd, Lib.NumEnd.ofOption]
end Go.Proofs.YtdpoicfciogfnaaDoor
