/- Lemmas: RepL Rdr. -/
import Derived.Test.YtlegilbiapbfkaaGreatZBase
import Derived.Deep.DeepMust
import Derived.Laws.BitsAllLaws
/- ReplayList: the reference's and the program's, each by its contract. -/
namespace Go.Proofs.YtlegilbiapbfkaaGreat
open Go.ChangeShapes Go.WideShapes Go.ChangeAt Go.RowKit
theorem Own.nil_lit (w : World) (B : Nat) (T : TypeId) (hB : B ≤ w.heap.size) : Own (w.alloc (.cells #[] T)) B T 1 encInt (.slice (some ⟨w.heap.size, 0, none⟩) 0 0) [] :=
  World.ownsRow_lit (base := B) (size := 1) w #[] 0 hB (by decide) rfl
end Go.Proofs.YtlegilbiapbfkaaGreat
/- The reader of the draws: l6Open, pick. -/
namespace Go.Proofs.YtlegilbiapbfkaaGreat
open Go.ChangeShapes Go.WideShapes Go.ChangeAt Go.RowKit
theorem xor_i64 (a b : Int) (h1 : 0 ≤ a) (h2 : a < 4611686018427387904) (h3 : 0 ≤ b) (h4 : b < 4611686018427387904) : 0 ≤ bits .xor .i64 a b := by
  obtain ⟨x, rfl⟩ := Int.eq_ofNat_of_zero_le h1
  obtain ⟨y, rfl⟩ := Int.eq_ofNat_of_zero_le h3
  have hx : x ^^^ y < 2 ^ 62 := Nat.xor_lt_two_pow (by omega) (by omega)
  have e1 : (BitVec.ofInt 64 (x : Int)).toNat = x := by
    rw [BitVec.ofInt_natCast, BitVec.toNat_ofNat]; exact Nat.mod_eq_of_lt (by omega)
  have e2 : (BitVec.ofInt 64 (y : Int)).toNat = y := by
    rw [BitVec.ofInt_natCast, BitVec.toNat_ofNat]; exact Nat.mod_eq_of_lt (by omega)
  show 0 ≤ IntKind.i64.wrap ((BitVec.ofInt 64 (x : Int) ^^^ BitVec.ofInt 64 (y : Int)).toNat : Int)
  rw [BitVec.toNat_xor, e1, e2]
  rw [IntWalk.i64_in _ (by omega)]
  omega
def Rd (w : World) (R p : Nat) : Prop :=
  ∃ (A : Option Addr) (n c : Nat) (l : List Int), n ≤ 2000 ∧ w.cell? ⟨R, 0, none⟩ = some (.slice A n c) ∧ w.cell? ⟨R, 1, none⟩ = some (.int .i64 p) ∧ w.frozen? ⟨R, 1, none⟩ = false ∧ Sl w 1 encU8 A n l ∧ (∀ x ∈ l, 0 ≤ x ∧ x < 256) ∧ (0 < n → ∀ a, A = some a → a.block < R) ∧ R < w.heap.size
def RetPick (m : Int) (R p : Nat) (w : World) (e : Ending) (w' : World) : Prop :=
  ∃ x : Int, e = .returned (.int .i64 x) ∧ 0 ≤ x ∧ (x < m ∨ x = 0) ∧ Rd w' R (p + 1) ∧ w.grownBy w' (some R)
theorem u8_at {w : World} {b off k : Nat} {x : Int} (hc : ∀ j v, (encU8 x)[j]? = some v → w.cell? ⟨b, off + k * 1 + j, none⟩ = some v) : w.cell? ⟨b, off + k, none⟩ = some (.int .u8 x) := by
  have := hc 0 _ rfl
  simpa using this
theorem grownBy_setCell (w : World) (b o : Nat) (u : Value) : w.grownBy (w.setCell ⟨b, o, none⟩ u) (some b) :=
  ⟨rfl, rfl, rfl, by simp, fun k _ hk => heap_setCell_other w ⟨b, o, none⟩ k u (fun e => hk (by simp [e]))⟩
theorem grownBy_drewN {w w' : World} {row : Option Nat} (h : w.grownBy w' row) (n : Nat) : w.grownBy (w'.drewN n) row := ⟨h.os, h.tape, h.output, h.size, h.block⟩
theorem Rd.step {w : World} {R p : Nat} (h : Rd w R p) : Rd (w.setCell ⟨R, 1, none⟩ (.int .i64 (p + 1 : Nat))) R (p + 1) := by
  obtain ⟨A, n, c, l, hn, h0, h1, h2, hs, hl, hA, hR⟩ := h
  refine ⟨A, n, c, l, hn, ?_, ?_, ?_, ?_, hl, hA, by simpa using hR⟩
  · rw [World.cell?_setCell_other w ⟨R, 1, none⟩ ⟨R, 0, none⟩ _ (by simp)]; exact h0
  · exact World.cell?_setCell_same' w _ _ (by simp [h1])
  · simpa using h2
  · rcases Nat.eq_zero_or_pos n with hz | hz
    · subst hz
      have := hs.len
      rw [List.length_eq_zero_iff.1 this]
      exact Sl.nil
    · exact hs.grown (grownBy_setCell _ _ _ _) (fun a ha e => by have := hA hz a ha; injection e with e; omega)
theorem Rd.drewN {w : World} {R p : Nat} (h : Rd w R p) (n : Nat) : Rd (w.drewN n) R p := h
theorem mod_lt' {x m : Int} (h : 1 ≤ m) : 0 ≤ x % m ∧ x % m < m := ⟨Int.emod_nonneg _ (by omega), Int.emod_lt_of_pos _ (by omega)⟩
set_option maxRecDepth 100000 in
theorem pick_any (R p : Nat) (m : Int) (w : World) (h : Rd w R p) (hp : p ≤ 1099511627776) (hm : m ≤ 9223372036854775807) (hm0 : -9223372036854775808 ≤ m) :
    Calls Sq.prog 69 #[.pointer (some ⟨R, 0, none⟩), .int .i64 m] w (RetPick m R p w) := by
  have HS := Lib.hid (Rd.step h)
  obtain ⟨A, n, c, l, hn, h0, h1, h2, hs, hl, hA, hR⟩ := h
  by_cases hm1 : m < 1
  · go_enter Sq.func69, Sq.ntmps69
    go_wp2
    go_ret
    exact ⟨0, rfl, by omega, .inr rfl, HS.out, grownBy_setCell _ _ _ _⟩
  · rcases Nat.eq_zero_or_pos n with hz | hpos
    · subst hz
      go_enter Sq.func69, Sq.ntmps69
      go_wp2
      go_ret
      exact ⟨0, rfl, by omega, .inr rfl, HS.out, grownBy_setCell _ _ _ _⟩
    · have hn0 : ((n : Int) == 0) = false := by rw [beq_eq_false_iff_ne]; omega
      have hs1 : Sl (w.setCell ⟨R, 1, none⟩ (.int .i64 (p + 1 : Nat))) 1 encU8 A n l := hs.grown (grownBy_setCell _ _ _ _) (fun a ha e => by have := hA hpos a ha; injection e with e; omega)
      have ec : (((p + 1 : Nat)) : Int) = (p : Int) + 1 := by omega
      rw [ec] at hs1
      by_cases hpn : p < n
      · obtain ⟨b, off, x, rfl, hbl, hx, hc⟩ := hs1.at_ hpn
        have q0 := u8_at hc
        obtain ⟨hx0, hx1⟩ := hl x (List.mem_of_getElem? hx)
        clear hs1 hc hs hx hl hA ec
        go_enter Sq.func69, Sq.ntmps69
        go_wp2
        go_ret
        obtain ⟨z1, z2⟩ := mod_lt' (x := x) (m := m) (by omega)
        exact ⟨x % m, rfl, z1, .inl z2, HS.out, grownBy_setCell _ _ _ _⟩
      · obtain ⟨j1, hj1, hj1n⟩ : ∃ j : Nat, (p : Int) % (n : Int) = (j : Int) ∧ j < n := ⟨p % n, by simp, Nat.mod_lt _ hpos⟩
        obtain ⟨j2, hj2, hj2n⟩ : ∃ j : Nat, ((p : Int) * 7 + 3) % (n : Int) = (j : Int) ∧ j < n := ⟨(p * 7 + 3) % n, by simp, Nat.mod_lt _ hpos⟩
        obtain ⟨q, hq, hq1⟩ : ∃ q : Nat, (p : Int) / (n : Int) = (q : Int) ∧ q ≤ p := ⟨p / n, by simp, Nat.div_le_self _ _⟩
        obtain ⟨b, off, x, rfl, hbl, hx, hc⟩ := hs1.at_ hj1n
        obtain ⟨b', off', y, e', hbl', hy, hc'⟩ := hs1.at_ hj2n
        simp only [Option.some.injEq, Addr.mk.injEq, and_true] at e'
        obtain ⟨rfl, rfl⟩ := e'
        have q0 := u8_at hc
        have q1 := u8_at hc'
        obtain ⟨hx0, hx1⟩ := hl x (List.mem_of_getElem? hx)
        obtain ⟨hy0, hy1⟩ := hl y (List.mem_of_getElem? hy)
        clear hs1 hc hc' hs hx hy hl hA ec
        go_enter Sq.func69, Sq.ntmps69
        go_wp2
        go_quiet (fail)
        go_wp2
        have hB := xor_i64 (x * 131 + y * 1117 + p * 29 + q * 53) ((x * 131 + y * 1117 + p * 29 + q * 53) / 64) (by omega) (by omega) (by omega) (by omega)
        go_ret
        obtain ⟨z1, z2⟩ := mod_lt' (x := bits .xor .i64 (x * 131 + y * 1117 + p * 29 + q * 53) ((x * 131 + y * 1117 + p * 29 + q * 53) / 64)) (m := m) (by omega)
        rw [← Int.tmod_eq_emod_of_nonneg hB] at z1 z2
        exact ⟨_, rfl, z1, .inl z2, HS.out.drewN _, grownBy_drewN (grownBy_setCell _ _ _ _) _⟩
def RetOpen (w : World) (e : Ending) (w' : World) : Prop := ∃ R, e = .returned (.pointer (some ⟨R, 0, none⟩)) ∧ w.heap.size ≤ R ∧ Rd w' R 0 ∧ Below w.heap.size w w'
set_option maxRecDepth 100000 in
theorem l6Open_any (A : Option Addr) (n c : Nat) (l : List Int) (w : World) (h : Sl w 1 encU8 A n l) (hl : ∀ x ∈ l, 0 ≤ x ∧ x < 256) (hn : n ≤ 9223372036854775807) (hnc : n ≤ c) (hc : c ≤ 9223372036854775807) :
    Calls Sq.prog 35 #[.slice A n c] w (RetOpen w) := by
  by_cases hb : 2000 < n
  · go_enter Sq.func35, Sq.ntmps35
    go_wp2
    go_ret
    obtain ⟨b, off, x, hA, hbl, _⟩ := h.at_ (k := 0) (by omega)
    subst hA
    refine ⟨w.heap.size, rfl, Nat.le_refl _, ⟨some ⟨b, off, none⟩, 2000, c, l.take 2000, Nat.le_refl _, by simp, by simp, by simp, ?_, fun x hx => hl x (List.mem_of_mem_take hx), ?_, by simp⟩, below_alloc (Below.refl _ _) _⟩
    · have h2 := h.below (below_alloc (Below.refl w.heap.size w) (.cells #[.slice (some ⟨b, off, none⟩) 2000 c, .int .i64 0] 112))
      refine ⟨by rw [List.length_take, h.len]; omega, fun hp => ?_⟩
      obtain ⟨b2, off2, e2, hl2, hc2⟩ := h2.2 (by omega)
      exact ⟨b2, off2, e2, hl2, fun k x hk => hc2 k x (by rw [List.getElem?_take] at hk; split at hk; exact hk; cases hk)⟩
    · intro _ a ha
      cases ha
      show b < w.heap.size
      omega
  · go_enter Sq.func35, Sq.ntmps35
    go_wp2
    go_ret
    refine ⟨w.heap.size, rfl, Nat.le_refl _, ⟨A, n, c, l, by omega, by simp, by simp, by simp, h.below (below_alloc (Below.refl _ _) _), hl, ?_, by simp⟩, below_alloc (Below.refl _ _) _⟩
    intro hp a ha
    obtain ⟨b, off, x, hA, hbl, _⟩ := h.at_ hp
    rw [hA] at ha
    cases ha
    show b < w.heap.size
    omega
end Go.Proofs.YtlegilbiapbfkaaGreat
