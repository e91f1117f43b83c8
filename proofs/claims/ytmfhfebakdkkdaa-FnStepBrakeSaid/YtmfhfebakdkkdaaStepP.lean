/- Small laws for the laws of a tick. (Round B) -/
import Derived.Test.YtmfhfebakdkkdaaDrT
import Derived.Test.YtmfhfebakdkkdaaImpT
import Derived.Test.YtmfhfebakdkkdaaImpU
namespace Go.Proofs.Ytmfhfebakdkkdaa
open Go.ChangeShapes Go.WideShapes Go.ChangeAt Go.RowKit
theorem engOk_iff {l : Lev} {s : St} {x : Inp} : engOk l s x = true ↔ validB l s = true ∧ inpOk x = true ∧ (s.t < l.ticks ∨ s.dn = true ∨ s.ov = true) := by
  unfold engOk
  cases hv : validB l s with
  | false => simp
  | true =>
    have ht := (validB_iff.1 hv).2.2.1
    cases hi : inpOk x <;> cases hd : s.dn <;> cases ho : s.ov <;> simp <;> omega
theorem engOk_other {l : Lev} {t d g : Int} {p f : V2} {x : Inp} (h : engOk l ⟨t, p, f, d, g, false, false⟩ x = true) {y : Inp} (hy : inpOk y = true) : engOk l ⟨t, p, f, d, g, false, false⟩ y = true := by
  obtain ⟨h1, _, h3⟩ := engOk_iff.1 h
  exact engOk_iff.2 ⟨h1, hy, h3⟩
theorem gateB_get {l : Lev} {u : Nat} {p : V2} (h : gateB l u p = true) : ∃ b, l.gates[u]? = some b ∧ hasV b p = true := by
  unfold gateB at h
  rw [Int.toNat_natCast] at h
  cases e : l.gates[u]? with
  | none => rw [e] at h; cases h
  | some b =>
    rw [e] at h
    simp only [Bool.and_eq_true] at h
    exact ⟨b, rfl, h.2⟩
end Go.Proofs.Ytmfhfebakdkkdaa
