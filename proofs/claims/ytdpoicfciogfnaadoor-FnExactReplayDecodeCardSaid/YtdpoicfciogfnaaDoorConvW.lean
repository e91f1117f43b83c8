/- Marks in a replay's two slices: markReplay, heldReplay. (Round B, seat Z) -/
import Derived.Test.YtdpoicfciogfnaaDoorZBase
namespace Go.Proofs.YtdpoicfciogfnaaDoor
open Go.ChangeShapes Go.WideShapes Go.ChangeAt Go.RowKit
set_option maxRecDepth 100000 in
theorem markReplay_own (A A' : Option Addr) (c c' : Nat) (r : Rep) (B : Nat) (k : Int) (w : World) (h : Own w B 68 3 encInp (.slice A r.ins.length c) r.ins) (h' : Own w B 3 1 encInt (.slice A' r.hs.length c') r.hs)
    (hsep : ∀ g g', (Value.slice A r.ins.length c).ownBlock = some g → (Value.slice A' r.hs.length c').ownBlock = some g' → g ≠ g') (hn : r.ins.length ≤ 1048576) (hn' : r.hs.length ≤ 1048576) (hk0 : 0 ≤ k) (hk1 : k ≤ 1000000000) :
    Calls Tryd.prog 14 #[.agg #[.int .i64 r.lv, .int .i64 r.pl, .int .i64 r.sc, .slice A r.ins.length c, .slice A' r.hs.length c', .int .i64 r.tag], .int .i64 k] w fun e w' =>
      e = .returned (.int .i64 (k + (3 * r.ins.length : Nat) + (1 * r.hs.length : Nat))) ∧ Own w' B 68 3 encInp (.slice A r.ins.length c) (marks mkInp 3 k r.ins.length) ∧ Own w' B 3 1 encInt (.slice A' r.hs.length c') (marks mkInt 1 (k + (3 * r.ins.length : Nat)) r.hs.length) ∧
      ∃ w1, w.grownBy w1 (Value.slice A r.ins.length c).ownBlock ∧ w1.grownBy w' (Value.slice A' r.hs.length c').ownBlock := by
  have hB0 := Blk.new w #[.int .i64 r.lv, .int .i64 r.pl, .int .i64 r.sc, .slice A r.ins.length c, .slice A' r.hs.length c', .int .i64 r.tag] 30
  go_enter Tryd.func14, Tryd.ntmps14
  go_wp2_with fail
  refine (markInputS_any _ _ _ _ _ _ _ (h.alloc _) (by omega) hk0 (by omega)).mono ?_
  rintro e w1 ⟨rfl, ho1, hg1⟩
  have hB1 := hB0.grown hg1 (by intro e; have := (h.lt _ e).2; omega)
  obtain ⟨x0, x1, x2, x3, x4, x5⟩ := hB1.c6
  have h2 := (h'.alloc (.cells #[.int .i64 r.lv, .int .i64 r.pl, .int .i64 r.sc, .slice A r.ins.length c, .slice A' r.hs.length c', .int .i64 r.tag] 30)).kept hg1 (by
    cases e1 : (Value.slice A' r.hs.length c').ownBlock with
    | none => exact .inl rfl
    | some g' => exact .inr (fun e2 => hsep g' g' e2.symm e1 rfl))
  go_wp2_with fail
  refine (markIntS_any _ _ _ _ _ _ _ h2 (by omega) (by omega) (by omega)).mono ?_
  rintro e w2 ⟨rfl, ho2, hg2⟩
  have ho3 := ho1.keptN hg2 (fun g e e2 => hsep g g e e2 rfl)
  go_wp2
  go_ret
  exact ⟨ret_int (by omega), ho3, ho2, w1, grownBy_trans (grown_of_below (below_alloc (Below.refl _ _) _)) hg1, hg2⟩
set_option maxRecDepth 100000 in
theorem heldReplay_any (A A' : Option Addr) (c c' : Nat) (r : Rep) (k : Int) (w : World) (h : Sl w 3 encInp A r.ins.length (marks mkInp 3 k r.ins.length)) (h' : Sl w 1 encInt A' r.hs.length (marks mkInt 1 (k + (3 * r.ins.length : Nat)) r.hs.length)) (hn : r.ins.length ≤ 1048576) (hn' : r.hs.length ≤ 1048576) (hk0 : 0 ≤ k) (hk1 : k ≤ 1000000000) :
    Calls Tryd.prog 15 #[.agg #[.int .i64 r.lv, .int .i64 r.pl, .int .i64 r.sc, .slice A r.ins.length c, .slice A' r.hs.length c', .int .i64 r.tag], .int .i64 k] w fun e w' => e = .returned (.int .i64 (k + (3 * r.ins.length : Nat) + (1 * r.hs.length : Nat))) ∧ Below w.heap.size w w' := by
  go_enter Tryd.func15, Tryd.ntmps15
  go_wp2_with fail
  refine (heldInputS_any _ _ _ _ _ (h.below (below_alloc (Below.refl _ _) _)) (by omega) hk0 (by omega)).mono ?_
  rintro e w1 ⟨rfl, rfl⟩
  go_wp2_with fail
  refine (heldIntS_any _ _ _ _ _ (h'.below (below_alloc (Below.refl _ _) _)) (by omega) (by omega) (by omega)).mono ?_
  rintro e w1 ⟨rfl, rfl⟩
  go_wp2
  go_ret
  exact ⟨ret_int (by omega), below_alloc (Below.refl _ _) _⟩
end Go.Proofs.YtdpoicfciogfnaaDoor
