/- Texts of replays: what is read is what was written, plain. (Seat D) -/
import Derived.Test.YtdpoicfciogfnaaDoorDecQ
namespace Go.Proofs.YtdpoicfciogfnaaDoor
open Go.ChangeShapes Go.WideShapes Go.ChangeAt Go.RowKit
theorem cutG_join (c : UInt8) : ∀ (l cur h : List UInt8) (t : List (List UInt8)), cutG c cur l = h :: t → h ++ t.flatMap (fun x => c :: x) = cur ++ l
  | [], cur, h, t, e => by
    rw [cutG] at e
    injection e with e1 e2
    subst e1 e2
    simp
  | x :: l, cur, h, t, e => by
    rw [cutG] at e
    split at e
    · rename_i hx
      injection e with e1 e2
      subst e1 hx
      obtain ⟨h2, t2, e3⟩ := cutG_cons x l []
      have := cutG_join x l [] h2 t2 e3
      rw [← e2, e3, List.flatMap_cons, List.cons_append, this]
      rfl
    · have := cutG_join c l _ h t e
      rw [this, List.append_assoc]
      rfl
theorem cutL_join {c : UInt8} {l h : List UInt8} {t : List (List UInt8)} (e : cutL c l = h :: t) : l = h ++ t.flatMap (fun x => c :: x) := by
  have := cutG_join c l [] h t e
  simpa using this.symm
theorem snocInd {p : List UInt8 → Prop} (h0 : p []) (h1 : ∀ V x, p V → p (V ++ [x])) (W : List UInt8) : p W := by
  rw [← List.reverse_reverse W]
  induction W.reverse with
  | nil => exact h0
  | cons x l ih => rw [List.reverse_cons]; exact h1 _ _ ih
theorem numV_pos : ∀ (W : List UInt8), W.all isD = true → W ≠ [] → W[0]? ≠ some 48 → 1 ≤ numV W := by
  intro W
  induction W using snocInd with
  | h0 => intro _ h; exact absurd rfl h
  | h1 V x ih =>
    intro ha _ h0
    rw [List.all_append, Bool.and_eq_true] at ha
    obtain ⟨ha, hx⟩ := ha
    have hx2 : 48 ≤ x.toNat ∧ x.toNat ≤ 57 := by simpa [isD] using hx
    rw [numV_app]
    rcases V with _ | ⟨y, V⟩
    · have : x ≠ 48 := fun e => h0 (by rw [e]; rfl)
      have h1 : x.toNat ≠ 48 := fun e => this (UInt8.toNat.inj e)
      show 1 ≤ 10 * (0 : Int) + _
      omega
    · have := ih ha (by simp) (by simpa using h0)
      omega
theorem digits_of : ∀ (W : List UInt8), W.all isD = true → W ≠ [] → ¬(1 < W.length ∧ W[0]? = some 48) → W = Lib.decDigits (numV W).toNat := by
  intro W
  induction W using snocInd with
  | h0 => intro _ h; exact absurd rfl h
  | h1 V x ih =>
    intro ha _ h0
    rw [List.all_append, Bool.and_eq_true] at ha
    obtain ⟨ha, hx⟩ := ha
    have hx2 : 48 ≤ x.toNat ∧ x.toNat ≤ 57 := by simpa [isD] using hx
    have hxx : ∀ d : Nat, d = x.toNat - 48 → [x] = [UInt8.ofNat (48 + d)] := fun d hd => by
      rw [show x = UInt8.ofNat (48 + d) from UInt8.toNat.inj (by rw [ofNat_48 (by omega)]; omega)]
    rw [numV_app]
    rcases V with _ | ⟨y, V⟩
    · rw [show numV [] = 0 from rfl, Lib.decDigits, dif_pos (by omega)]
      exact hxx _ (by omega)
    · have h1 : (y :: V)[0]? ≠ some 48 := fun e => h0 ⟨by simp, by simpa using e⟩
      have hp := numV_pos (y :: V) ha (by simp) h1
      have hv := ih ha (by simp) (fun e => h1 e.2)
      rw [Lib.decDigits, dif_neg (by omega)]
      rw [show (10 * numV (y :: V) + ((x.toNat : Int) - 48)).toNat / 10 = (numV (y :: V)).toNat by omega, ← hv, hxx _ rfl]
      congr 3
      omega
theorem numW_inv {W : List UInt8} (h : ¬ numW W < 0) : W = Lib.itoa (numW W) := by
  unfold numW at h ⊢
  split at h
  · rename_i hc
    rw [if_pos hc]
    have hb := numV_bd W hc.2.2.2
    obtain ⟨n, hn⟩ := Int.eq_ofNat_of_zero_le hb.1
    rw [hn, Lib.itoa_nonneg]
    have := digits_of W hc.2.2.2 (List.length_pos_iff.1 hc.1) hc.2.2.1
    rw [hn] at this
    simpa using this
  · omega
theorem numsOf_inv : ∀ (ws : List (List UInt8)), (numsOf ws).2 = true → ws = (numsOf ws).1.map Lib.itoa
  | [], _ => rfl
  | w :: ws, h => by
    rw [numsOf] at h ⊢
    split at h
    · cases h
    · rename_i hn
      rw [if_neg hn, List.map_cons, ← numW_inv hn, ← numsOf_inv ws h]
theorem lineP_inv {x L : List UInt8} (h : (lineP x L).2 = true) : L = x ++ numsB (lineP x L).1 := by
  unfold lineP at h ⊢
  obtain ⟨w0, wt, hws⟩ := cutG_cons 32 L []
  have hc : cutL 32 L = w0 :: wt := hws
  rw [hc] at h ⊢
  simp only [List.tail_cons, List.headD_cons, Bool.and_eq_true, beq_iff_eq] at h ⊢
  have h1 := numsOf_inv wt h.1
  have h2 := cutL_join hc
  rw [h.2] at h2
  rw [h2]
  congr 1
  unfold numsB
  rw [h1, List.flatMap_map]
  rw [← h1]
theorem pairs_unpair : ∀ l : List Int, l.length = 2 * (unpair l).length → pairsOf (unpair l) = l
  | [], _ => rfl
  | [_], h => by simp [unpair] at h
  | a :: b :: l, h => by
    rw [unpair, show pairsOf (⟨a, b⟩ :: unpair l) = a :: b :: pairsOf (unpair l) from rfl, pairs_unpair l (by simp [unpair] at h; omega)]
theorem decS_some {E : List UInt8} {r : Rep} (h : decS E = some r) : replayOk r = true ∧ encT r = E := by
  unfold decS decL at h
  split at h
  · rename_i l0 l1 l2 l3 l4 hcut
    split at h
    · rename_i h4
      subst h4
      unfold readS at h
      split at h
      · rename_i hc
        simp only [Bool.and_eq_true] at hc
        obtain ⟨hb, hg, hv⟩ := hc
        injection h with h
        obtain ⟨e0, e1, e2, e3, n0, n1, n3⟩ := readB_yes (L0 := (lineP wReplay l0).1) (L1 := (lineP wInputs l1).1) (L2 := (lineP wHashes l2).1) (L3 := (lineP wTag l3).1) (b0 := (lineP wReplay l0).2) (b1 := (lineP wInputs l1).2) (b2 := (lineP wHashes l2).2) (b3 := (lineP wTag l3).2) hb
        have f0 := lineP_inv e0
        have f1 := lineP_inv e1
        have f2 := lineP_inv e2
        have f3 := lineP_inv e3
        have hE := cutL_join hcut
        rw [h] at hv
        refine ⟨hv, ?_⟩
        have hp := partsL_inputs hg
        have hpp : partsOf r.ins = unpair (lineP wInputs l1).1 := by
          rw [← h]
          have h5 := hp.1
          unfold partsL at h5
          rw [hp.2.1] at h5
          exact h5
        have hps := pairs_unpair _ n1
        obtain ⟨a, b, c, g0⟩ := list3 n0
        obtain ⟨d, g3⟩ := List.length_eq_one_iff.1 n3
        rw [g0] at f0 h
        rw [g3] at f3 h
        have r0 : [r.lv, r.pl, r.sc] = [a, b, c] := by rw [← h]; rfl
        have r2 : r.hs = (lineP wHashes l2).1 := by rw [← h]; rfl
        have r3 : [r.tag] = [d] := by rw [← h]; rfl
        unfold encT lineB
        rw [hpp, hps, r0, r2, r3, ← f0, ← f1, ← f2, ← f3, hE]
        simp
      · cases h
    · cases h
  · cases h
theorem decS_iff {E : List UInt8} {r : Rep} : decS E = some r ↔ replayOk r = true ∧ encT r = E := ⟨decS_some, fun ⟨h1, h2⟩ => h2 ▸ decS_encT h1⟩
end Go.Proofs.YtdpoicfciogfnaaDoor
