/- Texts cut into pieces: the library's Split at one byte is the reference's cut, plain. (Seat D) -/
import Derived.Test.YtdpoicfciogfnaaDoorDecC
import Derived.Lib.SplitLaws
namespace Go.Proofs.YtdpoicfciogfnaaDoor
open Go.ChangeShapes Go.WideShapes Go.ChangeAt Go.RowKit
theorem splitK_cut (c : UInt8) : ∀ (l cur : List UInt8), ∃ h t, Lib.splitK [c] 0 (l.count c) l = h :: t ∧ cutG c cur l = (cur ++ h) :: t
  | [], cur => ⟨[], [], rfl, by simp [cutG]⟩
  | x :: l, cur => by
    by_cases hx : x = c
    · subst hx
      obtain ⟨h, t, h1, h2⟩ := splitK_cut x l []
      refine ⟨[], h :: t, ?_, ?_⟩
      · rw [List.count_cons_self, Lib.splitK, show Lib.index (x :: l) [x] = 0 by simp [Lib.index]]
        simpa using h1
      · rw [cutG, if_pos rfl, h2]; simp
    · obtain ⟨h, t, h1, h2⟩ := splitK_cut c l (cur ++ [x])
      refine ⟨x :: h, t, ?_, ?_⟩
      · rw [List.count_cons_of_ne (by simpa using hx)]
        have hi : Lib.index (x :: l) [c] = if Lib.index l [c] == -1 then -1 else Lib.index l [c] + 1 := by
          rw [Lib.index, if_neg]
          simpa using fun e => hx e.symm
        have hg := Lib.index_ge l [c]
        cases hk : l.count c with
        | zero =>
          rw [hk, Lib.splitK] at h1
          rw [Lib.splitK]
          injection h1 with e1 e2
          rw [e1, e2]
        | succ k =>
          rw [hk, Lib.splitK] at h1
          rw [Lib.splitK, hi]
          by_cases hm : Lib.index l [c] = -1
          · rw [hm] at h1 ⊢
            simp at h1 ⊢
            exact h1
          · have hm2 : (Lib.index l [c] == -1) = false := by rw [beq_eq_false_iff_ne]; exact hm
            have hm3 : (Lib.index l [c] + 1 == -1) = false := by rw [beq_eq_false_iff_ne]; omega
            rw [hm2] at h1 ⊢
            simp only [Bool.false_eq_true, if_false, hm3] at h1 ⊢
            injection h1 with e1 e2
            rw [show (Lib.index l [c] + 1).toNat = (Lib.index l [c]).toNat + 1 by omega]
            rw [← e1, ← e2]
            simp
      · rw [cutG, if_neg hx, h2, List.append_assoc]; rfl
theorem splitK_cutL (c : UInt8) (l : List UInt8) : Lib.splitK [c] 0 (l.count c) l = cutL c l := by
  obtain ⟨h, t, h1, h2⟩ := splitK_cut c l []
  rw [h1, cutL, h2]; rfl
end Go.Proofs.YtdpoicfciogfnaaDoor
