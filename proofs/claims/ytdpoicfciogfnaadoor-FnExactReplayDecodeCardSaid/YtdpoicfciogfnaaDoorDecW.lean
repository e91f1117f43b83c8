/- Texts of replays: what the program reads out of a text, plain; it is what the reference reads. (Seat D) -/
import Derived.Test.YtdpoicfciogfnaaDoorDecU
namespace Go.Proofs.YtdpoicfciogfnaaDoor
open Go.ChangeShapes Go.WideShapes Go.ChangeAt Go.RowKit
/-- The numbers of words as the program reads them: none if a word is no numeral. -/
def numZ : List (List UInt8) → Option (List Int)
  | [] => some []
  | w :: ws => match Lib.atoiAll w with
    | .ok n => (numZ ws).map (n :: ·)
    | _ => none
def readN (L : List UInt8) : Option (List Int) := numZ (cutL 32 L).tail
/-- Four lists of numbers as a replay, if it is one and E is its text. -/
def repI (E : List UInt8) (a b c d : List Int) : Option Rep :=
  if a.length = 3 ∧ b.length % 2 = 0 ∧ d.length = 1 ∧ goodParts (unpair b) = true ∧ replayOk (readP a b c d) = true ∧ encR (readP a b c d) = E then some (readP a b c d) else none
def decJ (E : List UInt8) : Option (List Int) → Option (List Int) → Option (List Int) → Option (List Int) → Option Rep
  | some a, some b, some c, some d => repI E a b c d
  | _, _, _, _ => none
def decK (E : List UInt8) : List (List UInt8) → Option Rep
  | [l0, l1, l2, l3, _] => decJ E (readN l0) (readN l1) (readN l2) (readN l3)
  | _ => none
/-- What the program reads out of a text. -/
def decI (E : List UInt8) : Option Rep := decK E (cutL 10 E)
theorem numZ_itoa : ∀ (l : List Int), (∀ y ∈ l, int7 y) → numZ (l.map Lib.itoa) = some l
  | [], _ => rfl
  | y :: l, h => by
    rw [List.map_cons, numZ, atoiAll_itoa (h y (by simp)), numZ_itoa l fun z hz => h z (by simp [hz])]
    rfl
theorem int7_63 {y : Int} (h : int7 y) : int63 y := ⟨h.1, by have := h.2; omega⟩
theorem readN_line {x : List UInt8} {l : List Int} (hx : ∀ z ∈ x, z ≠ (32 : UInt8)) (h : ∀ y ∈ l, int7 y) : readN (x ++ numsB l) = some l := by
  unfold readN
  rw [cut_line hx fun y hy => int7_63 (h y hy), List.tail_cons, numZ_itoa l h]
theorem decI_of {E : List UInt8} {r : Rep} (h : replayOk r = true) (hE : encT r = E) : decI E = some r := by
  subst hE
  obtain ⟨v1, v2, v3, v4, v5⟩ := enc_7 h
  obtain ⟨hvi, hn2, _⟩ := replayOk_bd h
  have hin := inputsOkB_iff.2 ⟨hvi, hn2⟩
  have hr : readP [r.lv, r.pl, r.sc] (pairsOf (partsOf r.ins)) r.hs [r.tag] = r := by
    unfold readP
    rw [unpair_pairs, inputs_partsOf hin]
    rfl
  unfold decI
  rw [cut_text h, decK, readN_line (by decide) (by simpa using ⟨v1, v2, v3⟩), readN_line (by decide) (pairs_7 hvi hn2), readN_line (by decide) v4, readN_line (by decide) (by simpa using v5), decJ, repI, hr, if_pos]
  refine ⟨rfl, by rw [pairsOf_len]; omega, rfl, by rw [unpair_pairs]; exact good_partsOf hin, h, ?_⟩
  unfold encR
  rw [if_pos h]
theorem decI_some {E : List UInt8} {r : Rep} (h : decI E = some r) : replayOk r = true ∧ encT r = E := by
  have key : ∀ a b c d, repI E a b c d = some r → replayOk r = true ∧ encT r = E := by
    intro a b c d h
    unfold repI at h
    split at h
    · rename_i hc
      obtain ⟨_, _, _, _, h1, h2⟩ := hc
      injection h with h
      rw [h] at h1 h2
      unfold encR at h2
      rw [if_pos h1] at h2
      exact ⟨h1, h2⟩
    · cases h
  unfold decI decK at h
  split at h
  · unfold decJ at h
    split at h
    · exact key _ _ _ _ h
    · cases h
  · cases h
theorem decI_eq (E : List UInt8) : decI E = decS E := by
  cases hS : decS E with
  | some r => obtain ⟨h1, h2⟩ := decS_iff.1 hS; exact decI_of h1 h2
  | none =>
    cases hI : decI E with
    | none => rfl
    | some r => obtain ⟨h1, h2⟩ := decI_some hI; rw [decS_iff.2 ⟨h1, h2⟩] at hS; cases hS
end Go.Proofs.YtdpoicfciogfnaaDoor
