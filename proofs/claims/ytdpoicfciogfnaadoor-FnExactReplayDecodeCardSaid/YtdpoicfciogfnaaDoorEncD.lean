/- Texts of replays: plain facts, bytes and lines. (Seat D) -/
import Derived.Test.YtdpoicfciogfnaaDoorEncT
namespace Go.Proofs.YtdpoicfciogfnaaDoor
open Go.ChangeShapes Go.WideShapes Go.ChangeAt Go.RowKit
theorem ofNat_48 {m : Nat} (h : m < 10) : (UInt8.ofNat (48 + m)).toNat = 48 + m := by rw [UInt8.toNat_ofNat']; omega
theorem digits_bd (n : Nat) : ∀ x ∈ Lib.decDigits n, 48 ≤ x.toNat ∧ x.toNat < 58 := by
  induction n using Nat.strongRecOn with
  | _ n ih =>
    intro x hx
    rw [Lib.decDigits] at hx
    split at hx
    · obtain rfl := List.mem_singleton.1 hx
      rw [ofNat_48 (by omega)]; omega
    · rcases List.mem_append.1 hx with h | h
      · exact ih (n / 10) (by omega) x h
      · obtain rfl := List.mem_singleton.1 h
        rw [ofNat_48 (by omega)]; omega
theorem itoa_bd {y : Int} (h : int63 y) : ∀ x ∈ Lib.itoa y, 48 ≤ x.toNat ∧ x.toNat < 58 := by
  obtain ⟨n, rfl⟩ := Int.eq_ofNat_of_zero_le h.1
  rw [Lib.itoa_nonneg]
  exact digits_bd n
theorem numsB_bd {l : List Int} (h : ∀ y ∈ l, int63 y) : ∀ x ∈ numsB l, x.toNat = 32 ∨ 48 ≤ x.toNat ∧ x.toNat < 58 := by
  intro x hx
  unfold numsB at hx
  obtain ⟨y, hy, hx⟩ := List.mem_flatMap.1 hx
  rcases List.mem_cons.1 hx with rfl | hx
  · exact .inl rfl
  · exact .inr (itoa_bd (h y hy) x hx)
theorem count_none {l : List UInt8} (h : ∀ x ∈ l, x.toNat ≠ 10) : l.count 10 = 0 := List.count_eq_zero.2 fun hm => h 10 hm rfl
theorem lineB_count {x : List UInt8} {l : List Int} (hx : x.count 10 = 0) (h : ∀ y ∈ l, int63 y) : (lineB x l).count 10 = 1 := by
  unfold lineB
  rw [List.count_append, List.count_append, hx, count_none fun z hz => by have := numsB_bd h z hz; omega]
  rfl
theorem encT_count {r : Rep} (h : replayOk r = true) : (encT r).count 10 = 4 := by
  obtain ⟨v1, v2, v3, v4, v5⟩ := enc_63 h
  obtain ⟨hvi, hn2, _⟩ := replayOk_bd h
  unfold encT
  rw [List.count_append, List.count_append, List.count_append, lineB_count (by decide) (by simpa using ⟨v1, v2, v3⟩), lineB_count (by decide) (pairs_63 hvi hn2), lineB_count (by decide) v4, lineB_count (by decide) (by simpa using v5)]
theorem encT_head (r : Rep) : ∃ F, encT r = [114, 101, 112, 108, 97, 121, 32] ++ F := by
  refine ⟨Lib.itoa r.lv ++ (numsB [r.pl, r.sc] ++ [10]) ++ lineB wInputs (pairsOf (partsOf r.ins)) ++ lineB wHashes r.hs ++ lineB wTag [r.tag], ?_⟩
  simp [encT, lineB, numsB, wReplay]
theorem encT_last (r : Rep) : ∃ F, encT r = F ++ [10] := by
  refine ⟨lineB wReplay [r.lv, r.pl, r.sc] ++ lineB wInputs (pairsOf (partsOf r.ins)) ++ lineB wHashes r.hs ++ (wTag ++ numsB [r.tag]), ?_⟩
  unfold encT
  rw [show lineB wTag [r.tag] = wTag ++ numsB [r.tag] ++ [10] from rfl]
  simp only [List.append_assoc]
theorem encR_len (r : Rep) : (encR r).length ≤ 100000 := by
  unfold encR
  cases h : replayOk r
  · simp
  · obtain ⟨v1, v2, v3, v4, v5⟩ := enc_63 h
    obtain ⟨hvi, hn2, hh⟩ := replayOk_bd h
    have a1 := numsB_len [r.lv, r.pl, r.sc] (by simpa using ⟨v1, v2, v3⟩)
    have a2 := numsB_len _ (pairs_63 hvi hn2)
    have a3 := numsB_len _ v4
    have a4 := numsB_len [r.tag] (by simpa using v5)
    have a5 := (rparts_bd r.ins r.ins.length).1
    rw [List.take_length] at a5
    have a6 : (partsOf r.ins).length ≤ r.ins.length := by unfold partsOf; rw [List.length_reverse]; exact a5
    rw [pairsOf_len] at a2
    simp only [if_true, encT, lineB, List.length_append, wReplay, wInputs, wHashes, wTag, List.length_cons, List.length_nil] at *
    omega
/-- What the law asks of a text that is not empty. -/
structure TextOk (E : List UInt8) : Prop where
  n : E.count 10 = 4
  h : ∃ F, E = [114, 101, 112, 108, 97, 121, 32] ++ F
  t : ∃ F, E = F ++ [10]
theorem encR_ok (r : Rep) : encR r = [] ∨ TextOk (encR r) := by
  unfold encR
  cases h : replayOk r
  · exact .inl rfl
  · exact .inr ⟨encT_count h, encT_head r, encT_last r⟩
theorem count_snoc {E : List UInt8} {k : Nat} {x : UInt8} (h : E[k]? = some x) : (E.take (k + 1)).count 10 = (E.take k).count 10 + (if x = 10 then 1 else 0) := by
  rw [List.take_add_one, h, List.count_append]
  by_cases hx : x = 10 <;> simp [hx]
theorem st_at (P : Program) (t : TypeId) (ht : P.underlying t = some .string) (W : World) {E : List UInt8} {k : Nat} {x : UInt8} (h : E[k]? = some x) : (Instr.index t (.string (st E)) (.int .i64 k)).run P W = .ok (.int .u8 x.toNat) W := by
  obtain ⟨hk, hx⟩ := List.getElem?_eq_some_iff.1 h
  rw [run_index_string _ _ _ _ _ ht, dif_pos ⟨by omega, by rw [st_size]; omega⟩]
  have : (st E)[(k : Int).toNat]'(by rw [st_size]; omega) = x := by
    subst hx
    simp [st, ByteArray.getElem_eq_getElem_data]
  rw [this]
theorem st_toList (E : List UInt8) : (st E).toList = E := ByteArray.toList_mk E
theorem st_cut (E : List UInt8) (a b : Nat) : (st E).extract a b = st ((E.drop a).take (b - a)) := ByteArray.extract_mk E a b
end Go.Proofs.YtdpoicfciogfnaaDoor
