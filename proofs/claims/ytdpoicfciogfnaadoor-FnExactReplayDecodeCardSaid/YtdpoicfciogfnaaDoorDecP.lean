/- Texts of replays: reading is the inverse of writing, plain. (Seat D) -/
import Derived.Test.YtdpoicfciogfnaaDoorDecS
namespace Go.Proofs.YtdpoicfciogfnaaDoor
open Go.ChangeShapes Go.WideShapes Go.ChangeAt Go.RowKit
theorem cutG_hit (c : UInt8) (l : List UInt8) : ∀ (x cur : List UInt8), (∀ y ∈ x, y ≠ c) → cutG c cur (x ++ c :: l) = (cur ++ x) :: cutG c [] l
  | [], cur, _ => by simp [cutG]
  | y :: x, cur, h => by
    rw [List.cons_append, cutG, if_neg (h y (by simp)), cutG_hit c l x _ (fun z hz => h z (by simp [hz])), List.append_assoc]
    rfl
theorem cutG_miss (c : UInt8) : ∀ (x cur : List UInt8), (∀ y ∈ x, y ≠ c) → cutG c cur x = [cur ++ x]
  | [], cur, _ => by simp [cutG]
  | y :: x, cur, h => by
    rw [cutG, if_neg (h y (by simp)), cutG_miss c x _ (fun z hz => h z (by simp [hz])), List.append_assoc]
    rfl
theorem ne_of_nat {x c : UInt8} (h : x.toNat ≠ c.toNat) : x ≠ c := fun e => h (by rw [e])
theorem cut_nums {l : List Int} (h : ∀ y ∈ l, int63 y) : ∀ cur : List UInt8, cutG 32 cur (numsB l) = cur :: l.map Lib.itoa := by
  induction l with
  | nil => intro cur; simp [numsB, cutG]
  | cons y l ih =>
    intro cur
    have hy := itoa_bd (h y (by simp))
    have hno : ∀ z ∈ Lib.itoa y, z ≠ (32 : UInt8) := fun z hz => ne_of_nat (by have := hy z hz; show z.toNat ≠ 32; omega)
    have ih2 := ih (fun z hz => h z (by simp [hz]))
    rw [show numsB (y :: l) = 32 :: (Lib.itoa y ++ numsB l) from rfl, cutG, if_pos rfl]
    have key : ∀ (x cur : List UInt8), (∀ z ∈ x, z ≠ (32 : UInt8)) → cutG 32 cur (x ++ numsB l) = cutG 32 (cur ++ x) (numsB l) := by
      intro x
      induction x with
      | nil => intro cur _; simp
      | cons z x ihx =>
        intro cur hx
        rw [List.cons_append, cutG, if_neg (hx z (by simp)), ihx _ (fun u hu => hx u (by simp [hu])), List.append_assoc]
        rfl
    rw [key _ _ hno, List.nil_append, ih2]
    rfl
theorem cut_line {x : List UInt8} {l : List Int} (hx : ∀ z ∈ x, z ≠ (32 : UInt8)) (h : ∀ y ∈ l, int63 y) : cutL 32 (x ++ numsB l) = x :: l.map Lib.itoa := by
  have key : ∀ (x cur : List UInt8), (∀ z ∈ x, z ≠ (32 : UInt8)) → cutG 32 cur (x ++ numsB l) = cutG 32 (cur ++ x) (numsB l) := by
    intro x
    induction x with
    | nil => intro cur _; simp
    | cons z x ihx =>
      intro cur hx
      rw [List.cons_append, cutG, if_neg (hx z (by simp)), ihx _ (fun u hu => hx u (by simp [hu])), List.append_assoc]
      rfl
  unfold cutL
  rw [key _ _ hx, List.nil_append, cut_nums h]
theorem line_no10 {x : List UInt8} {l : List Int} (hx : ∀ z ∈ x, z ≠ (10 : UInt8)) (h : ∀ y ∈ l, int63 y) : ∀ z ∈ x ++ numsB l, z ≠ (10 : UInt8) := by
  intro z hz
  rcases List.mem_append.1 hz with hz | hz
  · exact hx z hz
  · exact ne_of_nat (by have := numsB_bd h z hz; show z.toNat ≠ 10; omega)
theorem cut_text {r : Rep} (h : replayOk r = true) : cutL 10 (encT r) = [wReplay ++ numsB [r.lv, r.pl, r.sc], wInputs ++ numsB (pairsOf (partsOf r.ins)), wHashes ++ numsB r.hs, wTag ++ numsB [r.tag], []] := by
  obtain ⟨v1, v2, v3, v4, v5⟩ := enc_63 h
  obtain ⟨hvi, hn2, _⟩ := replayOk_bd h
  have a1 := line_no10 (x := wReplay) (l := [r.lv, r.pl, r.sc]) (by decide) (by simpa using ⟨v1, v2, v3⟩)
  have a2 := line_no10 (x := wInputs) (by decide) (pairs_63 hvi hn2)
  have a3 := line_no10 (x := wHashes) (by decide) v4
  have a4 := line_no10 (x := wTag) (l := [r.tag]) (by decide) (by simpa using v5)
  unfold encT lineB cutL
  generalize wReplay ++ numsB [r.lv, r.pl, r.sc] = X1 at a1
  generalize wInputs ++ numsB (pairsOf (partsOf r.ins)) = X2 at a2
  generalize wHashes ++ numsB r.hs = X3 at a3
  generalize wTag ++ numsB [r.tag] = X4 at a4
  rw [show X1 ++ [10] ++ (X2 ++ [10]) ++ (X3 ++ [10]) ++ (X4 ++ [10]) = X1 ++ 10 :: (X2 ++ 10 :: (X3 ++ 10 :: (X4 ++ 10 :: []))) by simp]
  rw [cutG_hit _ _ _ _ a1, cutG_hit _ _ _ _ a2, cutG_hit _ _ _ _ a3, cutG_hit _ _ _ _ a4]
  simp [cutG]
end Go.Proofs.YtdpoicfciogfnaaDoor
