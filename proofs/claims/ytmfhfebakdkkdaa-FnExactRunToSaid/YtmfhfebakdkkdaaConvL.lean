/- Small laws of sizes; two levels' cells stand. (Round B) -/
import Derived.Test.YtmfhfebakdkkdaaConvB
namespace Go.Proofs.Ytmfhfebakdkkdaa
open Go.ChangeShapes Go.WideShapes Go.ChangeAt Go.RowKit
theorem szLev_bd {n n' : Nat} : -1 ≤ szLev n n' 1048576 ∧ szLev n n' 1048576 ≤ 1048576 := by
  unfold szLev szL
  (repeat' split) <;> omega
theorem szLev_ok {n n' : Nat} (h : ¬ szLev n n' 1048576 < 0) : n ≤ 1048576 ∧ n' ≤ 1048576 := by
  unfold szLev szL at h
  (repeat' split at h) <;> omega
theorem szL_le {n : Nat} {k : Int} (hk : k ≤ 1048576) (h : ¬ szL n k < 0) : n ≤ 1048576 := by
  unfold szL at h
  split at h <;> omega
theorem keepLL {W w' : World} {g g' : Nat} {t t' : TypeId} {v0 v1 v2 v3 v4 v5 v6 v7 v8 v9 v10 u0 u1 u2 u3 u4 u5 u6 u7 u8 u9 u10 : Value} (h : Bk W g t #[v0, v1, v2, v3, v4, v5, v6, v7, v8, v9, v10]) (h' : Bk W g' t' #[u0, u1, u2, u3, u4, u5, u6, u7, u8, u9, u10]) (hb : Below W.heap.size W w') :
    (w'.cell? ⟨g, 0, none⟩ = some v0 ∧ w'.cell? ⟨g, 1, none⟩ = some v1 ∧ w'.cell? ⟨g, 2, none⟩ = some v2 ∧ w'.cell? ⟨g, 3, none⟩ = some v3 ∧ w'.cell? ⟨g, 4, none⟩ = some v4 ∧ w'.cell? ⟨g, 5, none⟩ = some v5 ∧ w'.cell? ⟨g, 6, none⟩ = some v6 ∧ w'.cell? ⟨g, 7, none⟩ = some v7 ∧ w'.cell? ⟨g, 8, none⟩ = some v8 ∧ w'.cell? ⟨g, 9, none⟩ = some v9 ∧ w'.cell? ⟨g, 10, none⟩ = some v10) ∧
    (w'.cell? ⟨g', 0, none⟩ = some u0 ∧ w'.cell? ⟨g', 1, none⟩ = some u1 ∧ w'.cell? ⟨g', 2, none⟩ = some u2 ∧ w'.cell? ⟨g', 3, none⟩ = some u3 ∧ w'.cell? ⟨g', 4, none⟩ = some u4 ∧ w'.cell? ⟨g', 5, none⟩ = some u5 ∧ w'.cell? ⟨g', 6, none⟩ = some u6 ∧ w'.cell? ⟨g', 7, none⟩ = some u7 ∧ w'.cell? ⟨g', 8, none⟩ = some u8 ∧ w'.cell? ⟨g', 9, none⟩ = some u9 ∧ w'.cell? ⟨g', 10, none⟩ = some u10) := ⟨(h.later hb).c11.1, (h'.later hb).c11.1⟩
end Go.Proofs.Ytmfhfebakdkkdaa
