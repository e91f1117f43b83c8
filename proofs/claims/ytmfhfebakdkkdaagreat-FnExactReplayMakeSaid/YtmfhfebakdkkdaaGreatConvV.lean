/- The laws' own comparisons and marks of vectors, boxes, levels. Printed by gen/convv.py. (Round B) -/
import Derived.Test.YtmfhfebakdkkdaaGreatZConv
import Derived.Test.YtmfhfebakdkkdaaGreatZImpB
namespace Go.Proofs.YtmfhfebakdkkdaaGreat
open Go.ChangeShapes Go.WideShapes Go.ChangeAt Go.RowKit
def mkV2 (K : Int) : V2 := ⟨K, K + 1⟩
def mkBx (K : Int) : Bx := ⟨⟨K, K + 1⟩, ⟨K + 1 + 1, K + 1 + 1 + 1⟩⟩
set_option maxRecDepth 100000 in
theorem markBoxS_any (A : Option Addr) (n c : Nat) (l : List Bx) (B : Nat) (k : Int) (w : World) (h : Own w B 27 4 encBx (.slice A n c) l) (hn : n ≤ 2097152) (hk0 : 0 ≤ k) (hk1 : k ≤ 1152921504606846976) :
    Calls Tryz.prog 63 #[.slice A n c, .int .i64 k] w (RetPut B 27 4 encBx (.slice A n c) (marks mkBx 4 k n) (k + (4 * n : Nat)) w) := by
  have hlen := h.form
  obtain ⟨A', c', e, _, hA⟩ := hlen
  simp only [Value.slice.injEq] at e
  obtain ⟨rfl, rfl, rfl⟩ := e
  have hsl := h.sl encBx_len
  have h' : w.ownsRow B 27 4 (.slice A l.length c) l.length (l.flatMap encBx) := h
  have HM := Lib.hid h'.1
  clear h
  generalize l.flatMap encBx = M at h' HM
  generalize hln : l.length = n at *
  clear hln
  go_enter Tryz.func63, Tryz.ntmps63
  go_wp2
  go_loopw [1, 5] (fun kv i wr => ∃ j : Nat, j ≤ n ∧ i = .int .i64 j ∧ kv = .int .i64 (k + (4 * j : Nat)) ∧ wr.ownsRow B 27 4 (.slice A n c) n (cellsTo encBx 4 (marks mkBx 4 k n) M j) ∧ w.grownBy wr (Value.slice A n c).ownBlock) (fun _ i _ => n - (intOf i).toNat)
  case atStart => exact ⟨0, Nat.zero_le _, rfl, by simp, by rw [cellsTo_zero]; exact h', grownBy_refl _ _⟩
  case round =>
    obtain ⟨j, hj, rfl, rfl, ho1, hg⟩ := hrel
    by_cases hlt : j < n
    · obtain ⟨b, off, x, rfl, hbl, _, _⟩ := hsl.at_ hlt
      obtain ⟨hB, hBl, hoff, _⟩ := hA _ rfl
      simp only at hoff
      subst hoff
      obtain ⟨⟨v0, c0⟩, f0⟩ := own_slot ho1 hlt 0 (by omega); obtain ⟨⟨v1, c1⟩, f1⟩ := own_slot ho1 hlt 1 (by omega); obtain ⟨⟨v2, c2⟩, f2⟩ := own_slot ho1 hlt 2 (by omega); obtain ⟨⟨v3, c3⟩, f3⟩ := own_slot ho1 hlt 3 (by omega)
      simp only [Nat.add_zero] at c0 f0
      have hK : ∃ K : Int, K = k + (4 * j : Nat) := ⟨_, rfl⟩
      obtain ⟨K, hK⟩ := hK
      have HK := Lib.hid hK
      have hK0 : 0 ≤ K := by omega
      have hK1 : K ≤ 1152921504615235584 := by omega
      rw [← hK]
      clear hK h' hA hsl
      go_wp2
      go_roundw
      case rel =>
        have hp := ownsRow_putAll (encBx (mkBx K)) _ (j * 4) wr ho1
        rw [cellsTo_succ (x := mkBx K) encBx_len (by rw [marks_len]; exact HM.out) (by rw [marks_at _ _ _ hlt, ← HK.out])] at hp
        exact ⟨j + 1, by omega, by go_num, by rw [HK.out]; exact congrArg (Value.int .i64) (by omega), hp.1, grownBy_trans hg hp.2⟩
      case measure => simp [intOf]; omega
    · have hjn : j = n := by omega
      have H := Lib.hid hjn; clear hjn
      clear h' hA hsl
      go_wp2
      go_ret
      refine ⟨by rw [H.out]; rfl, ?_, hg⟩
      have hx := cellsTo_all (enc := encBx) (sz := 4) (l := marks mkBx 4 k n) (m := M) (by rw [marks_len]; exact HM.out)
      rw [marks_len] at hx
      rw [H.out, hx] at ho1
      unfold Own
      rw [marks_len]
      exact ho1

theorem own_block_eq {α : Type} {w : World} {B : Nat} {T : TypeId} {sz : Nat} {enc : α → List Value} {v : Value} {l : List α} (h : Own w B T sz enc v l) {w' : World} {row : Option Nat} (hg : w.grownBy w' row) (hne : v.ownBlock = none ∨ v.ownBlock ≠ row) : Own w' B T sz enc v l := h.kept hg hne
set_option maxRecDepth 100000 in
set_option maxHeartbeats 1000000 in
theorem markLevel_any (l : Lev) (A A' : Option Addr) (c c' : Nat) (B : Nat) (k : Int) (w : World) (h : Own w B 27 4 encBx (.slice A l.walls.length c) l.walls) (h' : Own w B 27 4 encBx (.slice A' l.gates.length c') l.gates)
    (hsep : ∀ g g', (Value.slice A l.walls.length c).ownBlock = some g → (Value.slice A' l.gates.length c').ownBlock = some g' → g < g') (hn : l.walls.length ≤ 1048576) (hn' : l.gates.length ≤ 1048576) (hk0 : 0 ≤ k) (hk1 : k ≤ 1000000000) :
    Calls Tryz.prog 24 #[.agg #[.int .i64 l.id, .int .i64 l.ticks, .int .i64 l.start.x, .int .i64 l.start.y, .slice A l.walls.length c, .slice A' l.gates.length c', .int .i64 l.fin.lo.x, .int .i64 l.fin.lo.y, .int .i64 l.fin.hi.x, .int .i64 l.fin.hi.y, .int .i64 l.bans], .int .i64 k] w fun e w' =>
      e = .returned (.int .i64 (k + (4 * l.walls.length : Nat) + (4 * l.gates.length : Nat))) ∧ ∃ w1, w.grownBy w1 (Value.slice A l.walls.length c).ownBlock ∧ w1.grownBy w' (Value.slice A' l.gates.length c').ownBlock := by
  have hB0 : Bk (w.alloc (.cells #[.int .i64 l.id, .int .i64 l.ticks, .int .i64 l.start.x, .int .i64 l.start.y, .slice A l.walls.length c, .slice A' l.gates.length c', .int .i64 l.fin.lo.x, .int .i64 l.fin.lo.y, .int .i64 l.fin.hi.x, .int .i64 l.fin.hi.y, .int .i64 l.bans] 29)) w.heap.size 29 #[.int .i64 l.id, .int .i64 l.ticks, .int .i64 l.start.x, .int .i64 l.start.y, .slice A l.walls.length c, .slice A' l.gates.length c', .int .i64 l.fin.lo.x, .int .i64 l.fin.lo.y, .int .i64 l.fin.hi.x, .int .i64 l.fin.hi.y, .int .i64 l.bans] := Bk.new w _ _ rfl
  go_enter Tryz.func24, Tryz.ntmps24
  go_wp2_with fail
  refine (markBoxS_any _ _ _ _ _ _ _ (h.alloc _) (by omega) hk0 (by omega)).mono ?_
  rintro e w1 ⟨rfl, ho1, hg1⟩
  have hB1 := hB0.grown hg1 (by intro e; have := (h.lt _ e.symm).2; omega)
  obtain ⟨⟨x0, x1, x2, x3, x4, x5, x6, x7, x8, x9, x10⟩, xf⟩ := hB1.c11
  have h2 := (h'.alloc (.cells #[.int .i64 l.id, .int .i64 l.ticks, .int .i64 l.start.x, .int .i64 l.start.y, .slice A l.walls.length c, .slice A' l.gates.length c', .int .i64 l.fin.lo.x, .int .i64 l.fin.lo.y, .int .i64 l.fin.hi.x, .int .i64 l.fin.hi.y, .int .i64 l.bans] 29)).kept hg1 (by
    cases e1 : (Value.slice A' l.gates.length c').ownBlock with
    | none => exact .inl rfl
    | some g' => exact .inr (fun e2 => by have := hsep g' g' e2.symm e1; omega))
  go_wp2_with fail
  refine (markBoxS_any _ _ _ _ _ _ _ h2 (by omega) (by omega) (by omega)).mono ?_
  rintro e w2 ⟨rfl, ho2, hg2⟩
  go_wp2
  go_ret
  exact ⟨ret_int (by omega), w1, grownBy_trans (grown_of_below (below_alloc (Below.refl _ _) _)) hg1, hg2⟩
theorem pathR_le (l : Lev) (ins : List Inp) : (pathR l ins).length ≤ 61 := by
  unfold pathR
  split
  · rename_i h
    rw [pathTo_len]
    have := (runOk_bd h).2.1
    omega
  · simp
theorem hashesR_le (l : Lev) (ins : List Inp) : (hashesR l ins).length ≤ 61 := by
  unfold hashesR
  split
  · rename_i h
    rw [hashesTo_len]
    have := (runOk_bd h).2.1
    omega
  · simp
end Go.Proofs.YtmfhfebakdkkdaaGreat
