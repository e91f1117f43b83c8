/- Lemmas: ConvB ConvL. -/
import Derived.Test.YtmfhfebakdkkdaaGreatZImpB
import Derived.Test.YtmfhfebakdkkdaaGreatZBase
/- The laws' own conversions and comparisons of boxes, levels, states. Written by gen/convb.py. (Round B) -/
namespace Go.Proofs.YtmfhfebakdkkdaaGreat
open Go.ChangeShapes Go.WideShapes Go.ChangeAt Go.RowKit
def eqV2 (u v : V2) : Bool := u.x == v.x && u.y == v.y
theorem eqV2_iff (u v : V2) : eqV2 u v = true ↔ u = v := by
  obtain ⟨a, b⟩ := u; obtain ⟨c, d⟩ := v
  simp [eqV2]
def eqBx (a b : Bx) : Bool := eqV2 a.lo b.lo && eqV2 a.hi b.hi
theorem eqBx_iff (a b : Bx) : eqBx a b = true ↔ a = b := by
  obtain ⟨p, q⟩ := a; obtain ⟨r, s⟩ := b
  simp [eqBx, eqV2_iff]
theorem toVec_any (x y : Int) (w : World) : Calls Tryz.prog 54 #[.agg #[.int .i64 x, .int .i64 y]] w fun e w' => e = .returned (.agg #[.int .i64 x, .int .i64 y]) ∧ Below w.heap.size w w' := by
  go_enter Tryz.func54, Tryz.ntmps54
  go_wp2
  refine bodyPost_ret (v := .agg #[.int .i64 x, .int .i64 y]) (by simp [results, Tryz.results54, go_sem, *]) rfl ⟨rfl, by (repeat (first | (with_reducible assumption) | (with_reducible exact Below.refl _ _) | (with_reducible refine below_alloc ?_ _) | (with_reducible refine below_setCell ?_ ?_ _; (simp <;> omega)) | (with_reducible refine below_drew ?_) | (with_reducible refine below_drewN ?_ _) | (with_reducible refine below_after ?_ (by assumption))))⟩
theorem eqVec_any (u v : V2) (w : World) : Calls Tryz.prog 59 #[.agg #[.int .i64 u.x, .int .i64 u.y], .agg #[.int .i64 v.x, .int .i64 v.y]] w fun e w' => e = .returned (.bool (eqV2 u v)) ∧ Below w.heap.size w w' := by
  go_enter Tryz.func59, Tryz.ntmps59
  go_wp2
  all_goals (go_ret; refine ⟨?_, by (repeat (first | (with_reducible assumption) | (with_reducible exact Below.refl _ _) | (with_reducible refine below_alloc ?_ _) | (with_reducible refine below_setCell ?_ ?_ _; (simp <;> omega)) | (with_reducible refine below_drew ?_) | (with_reducible refine below_drewN ?_ _) | (with_reducible refine below_after ?_ (by assumption))))⟩; simp_all [eqV2])
theorem eqVec_xy (a b c d : Int) (w : World) : Calls Tryz.prog 59 #[.agg #[.int .i64 a, .int .i64 b], .agg #[.int .i64 c, .int .i64 d]] w fun e w' => e = .returned (.bool (eqV2 ⟨a, b⟩ ⟨c, d⟩)) ∧ Below w.heap.size w w' := eqVec_any ⟨a, b⟩ ⟨c, d⟩ w
theorem toBox_any (b : Bx) (w : World) : Calls Tryz.prog 56 #[.agg #[.int .i64 b.lo.x, .int .i64 b.lo.y, .int .i64 b.hi.x, .int .i64 b.hi.y]] w fun e w' => e = .returned (.agg #[.int .i64 b.lo.x, .int .i64 b.lo.y, .int .i64 b.hi.x, .int .i64 b.hi.y]) ∧ Below w.heap.size w w' := by
  go_enter Tryz.func56, Tryz.ntmps56
  go_wp2_with fail
  refine (toVec_any b.lo.x b.lo.y _).mono ?_
  rintro e w1 ⟨rfl, hb1⟩
  have A1 : Bk w1 w.heap.size 51 #[.int .i64 b.lo.x, .int .i64 b.lo.y, .int .i64 b.hi.x, .int .i64 b.hi.y] := Bk.later (by (repeat (first | (with_reducible assumption) | (with_reducible exact Bk.new _ _ _ (by simp; done)) | (with_reducible refine Bk.alloc ?_ _) | (with_reducible refine Bk.drew ?_) | (with_reducible refine Bk.drewN ?_ _) | (with_reducible apply Bk.set') | (with_reducible refine Bk.far ?_ (by first | omega | (simp; done) | (simp; omega)) _) | (with_reducible refine Bk.later ?_ (by assumption)) | (with_reducible refine Bk.grown ?_ (by assumption) (by first | omega | (simp; done) | (simp; omega))) | (exact SetTo.mk (by with_reducible rfl)) | (exact SetTo.mk (by simp))))) hb1
  have O1 : Bk w1 (w.heap.size + 1) 27 #[.int .i64 0, .int .i64 0, .int .i64 0, .int .i64 0] := Bk.later ((Bk.new _ _ _ (by simp)).alloc _) hb1
  have X1 : Bk w1 (w.heap.size + 1 + 1) 27 #[.int .i64 0, .int .i64 0, .int .i64 0, .int .i64 0] := Bk.later (Bk.new _ _ _ (by simp)) hb1
  have d1 : Below w.heap.size w w1 := by (repeat (first | (with_reducible assumption) | (with_reducible exact Below.refl _ _) | (with_reducible refine below_alloc ?_ _) | (with_reducible refine below_setCell ?_ ?_ _; (simp <;> omega)) | (with_reducible refine below_drew ?_) | (with_reducible refine below_drewN ?_ _) | (with_reducible refine below_after ?_ (by assumption))))
  clear hb1
  have z1 := X1.lt
  obtain ⟨⟨a0, a1, a2, a3⟩, af⟩ := A1.c4; obtain ⟨⟨x0, x1, x2, x3⟩, xf⟩ := X1.c4
  go_wp2_with fail
  refine (toVec_any b.hi.x b.hi.y _).mono ?_
  rintro e w2 ⟨rfl, hb2⟩
  have O2 : Bk w2 (w.heap.size + 1) 27 #[.int .i64 0, .int .i64 0, .int .i64 0, .int .i64 0] := Bk.later (by (repeat (first | (with_reducible assumption) | (with_reducible exact Bk.new _ _ _ (by simp; done)) | (with_reducible refine Bk.alloc ?_ _) | (with_reducible refine Bk.drew ?_) | (with_reducible refine Bk.drewN ?_ _) | (with_reducible apply Bk.set') | (with_reducible refine Bk.far ?_ (by first | omega | (simp; done) | (simp; omega)) _) | (with_reducible refine Bk.later ?_ (by assumption)) | (with_reducible refine Bk.grown ?_ (by assumption) (by first | omega | (simp; done) | (simp; omega))) | (exact SetTo.mk (by with_reducible rfl)) | (exact SetTo.mk (by simp))))) hb2
  have X2 : Bk w2 (w.heap.size + 1 + 1) 27 #[.int .i64 b.lo.x, .int .i64 b.lo.y, .int .i64 0, .int .i64 0] := Bk.later (by (repeat (first | (with_reducible assumption) | (with_reducible exact Bk.new _ _ _ (by simp; done)) | (with_reducible refine Bk.alloc ?_ _) | (with_reducible refine Bk.drew ?_) | (with_reducible refine Bk.drewN ?_ _) | (with_reducible apply Bk.set') | (with_reducible refine Bk.far ?_ (by first | omega | (simp; done) | (simp; omega)) _) | (with_reducible refine Bk.later ?_ (by assumption)) | (with_reducible refine Bk.grown ?_ (by assumption) (by first | omega | (simp; done) | (simp; omega))) | (exact SetTo.mk (by with_reducible rfl)) | (exact SetTo.mk (by simp))))) hb2
  have d2 : Below w.heap.size w w2 := by (repeat (first | (with_reducible assumption) | (with_reducible exact Below.refl _ _) | (with_reducible refine below_alloc ?_ _) | (with_reducible refine below_setCell ?_ ?_ _; (simp <;> omega)) | (with_reducible refine below_drew ?_) | (with_reducible refine below_drewN ?_ _) | (with_reducible refine below_after ?_ (by assumption))))
  clear hb2 a0 a1 a2 a3 af x0 x1 x2 x3 xf A1 O1 X1 d1 z1
  have z2 := X2.lt
  obtain ⟨⟨o0, o1, o2, o3⟩, of⟩ := O2.c4; obtain ⟨⟨x0, x1, x2, x3⟩, xf⟩ := X2.c4
  go_wp2
  refine bodyPost_ret (v := .agg #[.int .i64 b.lo.x, .int .i64 b.lo.y, .int .i64 b.hi.x, .int .i64 b.hi.y]) (by simp [results, Tryz.results56, go_sem, *]) rfl ⟨rfl, by (repeat (first | (with_reducible assumption) | (with_reducible exact Below.refl _ _) | (with_reducible refine below_alloc ?_ _) | (with_reducible refine below_setCell ?_ ?_ _; (simp <;> omega)) | (with_reducible refine below_drew ?_) | (with_reducible refine below_drewN ?_ _) | (with_reducible refine below_after ?_ (by assumption))))⟩
theorem eqBox_any (a b : Bx) (w : World) : Calls Tryz.prog 61 #[.agg #[.int .i64 a.lo.x, .int .i64 a.lo.y, .int .i64 a.hi.x, .int .i64 a.hi.y], .agg #[.int .i64 b.lo.x, .int .i64 b.lo.y, .int .i64 b.hi.x, .int .i64 b.hi.y]] w fun e w' => e = .returned (.bool (eqBx a b)) ∧ Below w.heap.size w w' := by
  cases h1 : eqV2 a.lo b.lo
  · have HE := Lib.hid (show eqBx a b = false by unfold eqBx; rw [h1]; rfl)
    go_enter Tryz.func61, Tryz.ntmps61
    go_wp2_with (go_at_call 59; refine (eqVec_any a.lo b.lo _).mono ?_; rw [h1]; rintro e w1 ⟨rfl, hb1⟩)
    go_ret
    exact ⟨ret_bool HE.out.symm, by (repeat (first | (with_reducible assumption) | (with_reducible exact Below.refl _ _) | (with_reducible refine below_alloc ?_ _) | (with_reducible refine below_setCell ?_ ?_ _; (simp <;> omega)) | (with_reducible refine below_drew ?_) | (with_reducible refine below_drewN ?_ _) | (with_reducible refine below_after ?_ (by assumption))))⟩
  · have HE := Lib.hid (show eqBx a b = eqV2 a.hi b.hi by unfold eqBx; rw [h1]; rfl)
    go_enter Tryz.func61, Tryz.ntmps61
    go_wp2_with fail
    refine (eqVec_any a.lo b.lo _).mono ?_
    rw [h1]
    rintro e w1 ⟨rfl, hb1⟩
    have A1 : Bk w1 w.heap.size 27 #[.int .i64 a.lo.x, .int .i64 a.lo.y, .int .i64 a.hi.x, .int .i64 a.hi.y] := Bk.later (by (repeat (first | (with_reducible assumption) | (with_reducible exact Bk.new _ _ _ (by simp; done)) | (with_reducible refine Bk.alloc ?_ _) | (with_reducible refine Bk.drew ?_) | (with_reducible refine Bk.drewN ?_ _) | (with_reducible apply Bk.set') | (with_reducible refine Bk.far ?_ (by first | omega | (simp; done) | (simp; omega)) _) | (with_reducible refine Bk.later ?_ (by assumption)) | (with_reducible refine Bk.grown ?_ (by assumption) (by first | omega | (simp; done) | (simp; omega))) | (exact SetTo.mk (by with_reducible rfl)) | (exact SetTo.mk (by simp))))) hb1
    have B1 : Bk w1 (w.heap.size + 1) 27 #[.int .i64 b.lo.x, .int .i64 b.lo.y, .int .i64 b.hi.x, .int .i64 b.hi.y] := Bk.later (by (repeat (first | (with_reducible assumption) | (with_reducible exact Bk.new _ _ _ (by simp; done)) | (with_reducible refine Bk.alloc ?_ _) | (with_reducible refine Bk.drew ?_) | (with_reducible refine Bk.drewN ?_ _) | (with_reducible apply Bk.set') | (with_reducible refine Bk.far ?_ (by first | omega | (simp; done) | (simp; omega)) _) | (with_reducible refine Bk.later ?_ (by assumption)) | (with_reducible refine Bk.grown ?_ (by assumption) (by first | omega | (simp; done) | (simp; omega))) | (exact SetTo.mk (by with_reducible rfl)) | (exact SetTo.mk (by simp))))) hb1
    have d1 : Below w.heap.size w w1 := by (repeat (first | (with_reducible assumption) | (with_reducible exact Below.refl _ _) | (with_reducible refine below_alloc ?_ _) | (with_reducible refine below_setCell ?_ ?_ _; (simp <;> omega)) | (with_reducible refine below_drew ?_) | (with_reducible refine below_drewN ?_ _) | (with_reducible refine below_after ?_ (by assumption))))
    clear hb1
    obtain ⟨⟨a0, a1, a2, a3⟩, af⟩ := A1.c4; obtain ⟨⟨b0, b1, b2, b3⟩, bf⟩ := B1.c4
    cases h2 : eqV2 a.hi b.hi
    all_goals
      have HE2 := Lib.hid h2
      go_wp2_with (go_at_call 59; refine (eqVec_any a.hi b.hi _).mono ?_; rw [h2]; rintro e w2 ⟨rfl, hb2⟩)
      go_ret
      exact ⟨ret_bool (by rw [HE.out, HE2.out]), by (repeat (first | (with_reducible assumption) | (with_reducible exact Below.refl _ _) | (with_reducible refine below_alloc ?_ _) | (with_reducible refine below_setCell ?_ ?_ _; (simp <;> omega)) | (with_reducible refine below_drew ?_) | (with_reducible refine below_drewN ?_ _) | (with_reducible refine below_after ?_ (by assumption))))⟩
/-- The laws' sizes, conversions, comparisons of levels. -/
theorem szBoxS_any (A : Option Addr) (n c : Nat) (k : Int) (w : World) (hk0 : -1 ≤ k) (hk1 : k ≤ 2097152) (hn : n ≤ 9223372036854775807) :
    Calls Tryz.prog 53 #[.slice A n c, .int .i64 k] w fun e w' => e = .returned (.int .i64 (szL n k)) ∧ w = w' := by
  go_enter Tryz.func53, Tryz.ntmps53
  by_cases h : k - n < 0
  all_goals
    go_wp2
    go_ret
    exact ⟨ret_int (by unfold szL; split <;> omega), rfl⟩
set_option maxRecDepth 100000 in
theorem eqBoxS_any (A A' : Option Addr) (n n' c c' : Nat) (l l' : List Bx) (w : World) (h : Sl w 4 encBx A n l) (h' : Sl w 4 encBx A' n' l') (hn : n ≤ 2097152) (hn' : n' ≤ 2097152) :
    Calls Tryz.prog 60 #[.slice A n c, .slice A' n' c'] w fun e w' => e = .returned (.bool (eqL eqBx l l')) ∧ Below w.heap.size w w' := by
  by_cases hnn : n = n'
  · subst hnn
    go_enter Tryz.func60, Tryz.ntmps60
    go_wp2
    go_loopw [5] (fun i wr => ∃ k : Nat, k ≤ n ∧ i = .int .i64 k ∧ l.take k = l'.take k ∧ Below w.heap.size w wr) (fun i _ => n - (intOf i).toNat)
    case atStart => exact ⟨0, Nat.zero_le _, rfl, rfl, Below.refl _ _⟩
    case round =>
      obtain ⟨k, hk, rfl, ht, hb⟩ := hrel
      by_cases hlt : k < n
      · obtain ⟨b, off, x, rfl, hbl, hx, hc⟩ := (h.below hb).at_ hlt
        obtain ⟨b', off', x', rfl, hbl', hx', hc'⟩ := (h'.below hb).at_ hlt
        have q0 : wr.cell? ⟨b, off + k * 4, none⟩ = some (.int .i64 x.lo.x) := hc 0 _ rfl
        have q1 : wr.cell? ⟨b, off + k * 4 + 1, none⟩ = some (.int .i64 x.lo.y) := hc 1 _ rfl
        have q2 : wr.cell? ⟨b, off + k * 4 + 2, none⟩ = some (.int .i64 x.hi.x) := hc 2 _ rfl
        have q3 : wr.cell? ⟨b, off + k * 4 + 3, none⟩ = some (.int .i64 x.hi.y) := hc 3 _ rfl
        have r0 : wr.cell? ⟨b', off' + k * 4, none⟩ = some (.int .i64 x'.lo.x) := hc' 0 _ rfl
        have r1 : wr.cell? ⟨b', off' + k * 4 + 1, none⟩ = some (.int .i64 x'.lo.y) := hc' 1 _ rfl
        have r2 : wr.cell? ⟨b', off' + k * 4 + 2, none⟩ = some (.int .i64 x'.hi.x) := hc' 2 _ rfl
        have r3 : wr.cell? ⟨b', off' + k * 4 + 3, none⟩ = some (.int .i64 x'.hi.y) := hc' 3 _ rfl
        have Ht := Lib.hid ht; clear ht
        have Hx := Lib.hid hx; clear hx
        have Hx' := Lib.hid hx'; clear hx'
        clear h h' hc hc'
        go_wp2
        go_still_tail 8, (by kernel_rfl)
        change wpList _ _ _ _ _ wr.drew
        have hb2 : Below w.heap.size w wr.drew := hb.drew
        generalize wr.drew = w2 at hb2
        go_wp2_with (go_at_call 61; refine (eqBox_any _ _ _).mono ?_; rintro e w' ⟨rfl, hb1⟩)
        · have ht : (!eqBx x x') = true := by assumption
          go_ret
          exact ⟨ret_bool (eqL_ne eqBx_iff Hx.out Hx'.out (by simpa using ht)).symm, hb2.trans (hb1.mono hb2.size)⟩
        · have ht : (!eqBx x x') = false := by assumption
          go_roundw
          case rel => exact ⟨k + 1, by omega, by go_num, take_succ_eq Hx.out Hx'.out Ht.out ((eqBx_iff x x').1 (by simpa using ht)), hb2.trans (hb1.mono hb2.size)⟩
          case measure => simp [intOf]; omega
      · have hkn : k = n := by omega
        have H := Lib.hid hkn; clear hkn
        go_wp2
        go_ret
        exact ⟨ret_bool (eqL_all eqBx_iff (by rw [← H.out]; exact ht) h.1 h'.1).symm, hb⟩
  · have hnb : ((n : Int) != (n' : Int)) = true := by rw [bne_iff_ne]; omega
    go_enter Tryz.func60, Tryz.ntmps60
    go_wp2
    go_ret
    exact ⟨ret_bool (eqL_len eqBx_iff (by rw [h.1, h'.1]; exact hnn)).symm, Below.refl _ _⟩

set_option maxRecDepth 100000 in
theorem toBoxS_any (A : Option Addr) (n c : Nat) (l : List Bx) (w : World) (h : Sl w 4 encBx A n l) (hn : n ≤ 2097152) :
    Calls Tryz.prog 55 #[.slice A n c] w (RetOwn 27 4 encBx l w) := by
  obtain rfl := h.len
  obtain ⟨i0, hi, hz0, hz1, hz2⟩ := info_parts Tryz.infoBox
  go_enter Tryz.func55, Tryz.ntmps55
  go_wp2_with (at_make; refine wpList_make_full _ rfl _ _ 25 rfl w.heap.size 27 i0 (.agg #[.int .i64 0, .int .i64 0, .int .i64 0, .int .i64 0]) 4 Tryz.underlying25 hi hz0 hz1 _ _ _ _ l.length rfl rfl rfl rfl ?c1 ?c2 ?c3 ?_)
  case c1 => rw [hz2]; omega
  case c2 => unfold maxLen; omega
  case c3 => simp
  · intro w1 ho hg
    have hb0 : Below w.heap.size w w1 := below_of_grown hg (Nat.le_refl _) (by intro k e; cases e)
    generalize hM : (madeCells _ _).toList = M at ho
    have HM := Lib.hid ho.1
    clear hM hg
    go_wp2
    go_loopw [4] (fun i wr => ∃ k : Nat, k ≤ l.length ∧ i = .int .i64 k ∧ wr.ownsRow w.heap.size 27 4 (.slice (some ⟨w.heap.size, 0, none⟩) l.length l.length) l.length (cellsTo encBx 4 l M k) ∧ Below w.heap.size w wr) (fun i _ => l.length - (intOf i).toNat)
    case atStart => exact ⟨0, Nat.zero_le _, rfl, by rw [cellsTo_zero]; exact ho, hb0⟩
    case round =>
      obtain ⟨k, hk, rfl, ho1, hb⟩ := hrel
      by_cases hlt : k < l.length
      · obtain ⟨b, off, x, rfl, hbl, hx, hc⟩ := (h.below hb).at_ hlt
        have q0 : wr.cell? ⟨b, off + k * 4, none⟩ = some (.int .i64 x.lo.x) := hc 0 _ rfl
        have q1 : wr.cell? ⟨b, off + k * 4 + 1, none⟩ = some (.int .i64 x.lo.y) := hc 1 _ rfl
        have q2 : wr.cell? ⟨b, off + k * 4 + 2, none⟩ = some (.int .i64 x.hi.x) := hc 2 _ rfl
        have q3 : wr.cell? ⟨b, off + k * 4 + 3, none⟩ = some (.int .i64 x.hi.y) := hc 3 _ rfl
        have Hx := Lib.hid hx; clear hx
        clear h hc ho hb0
        go_wp2_with (go_at_call 56; refine (toBox_any _ _).mono ?_; rintro e w' ⟨rfl, hb1⟩; have ho2 := ho1.kept (row := none) (grown_of_below hb1) (.inr (by simp [Value.ownBlock])); obtain ⟨⟨v0, c0⟩, f0⟩ := own_slot ho2 hlt 0 (by omega); obtain ⟨⟨v1, c1⟩, f1⟩ := own_slot ho2 hlt 1 (by omega); obtain ⟨⟨v2, c2⟩, f2⟩ := own_slot ho2 hlt 2 (by omega); obtain ⟨⟨v3, c3⟩, f3⟩ := own_slot ho2 hlt 3 (by omega); simp only [Nat.add_zero] at c0 f0)
        go_roundw
        case rel =>
          have hp := ownsRow_putAll (encBx x) _ (k * 4) w' ho2
          rw [cellsTo_succ encBx_len HM.out Hx.out] at hp
          exact ⟨k + 1, by omega, by go_num, hp.1, (((((hb.trans (hb1.mono hb.size)).setCell (Nat.le_refl _) _).setCell (Nat.le_refl _) _).setCell (Nat.le_refl _) _).setCell (Nat.le_refl _) _)⟩
        case measure => simp [intOf]; omega
      · have hkn : k = l.length := by omega
        have H := Lib.hid hkn; clear hkn
        go_wp2
        go_ret
        exact ⟨_, _, rfl, Nat.le_refl _, by rw [H.out, cellsTo_all HM.out] at ho1; exact ho1, hb⟩

def szLev (nw ng : Nat) (k : Int) : Int := if szL nw k < 0 then -1 else szL ng (szL nw k)
theorem szLevel_any (v0 v1 v2 v3 v6 v7 v8 v9 v10 : Value) (A A' : Option Addr) (n n' c c' : Nat) (k : Int) (w : World) (hk0 : -1 ≤ k) (hk1 : k ≤ 1048576) (hn : n ≤ 9223372036854775807) (hn' : n' ≤ 9223372036854775807) :
    Calls Tryz.prog 17 #[.agg #[v0, v1, v2, v3, .slice A n c, .slice A' n' c', v6, v7, v8, v9, v10], .int .i64 k] w fun e w' => e = .returned (.int .i64 (szLev n n' k)) ∧ Below w.heap.size w w' := by
  have hz := szL_bd (n := n) hk1 hk0
  by_cases hs : szL n k < 0
  · have H := Lib.hid hs
    go_enter Tryz.func17, Tryz.ntmps17
    go_wp2_with (go_at_call 53; refine (szBoxS_any _ _ _ _ _ (by omega) (by omega) (by omega)).mono ?_; rintro e w' ⟨rfl, rfl⟩)
    go_ret
    exact ⟨ret_int (by unfold szLev; rw [if_pos H.out]), by (repeat (first | (with_reducible assumption) | (with_reducible exact Below.refl _ _) | (with_reducible refine below_alloc ?_ _) | (with_reducible refine below_setCell ?_ ?_ _; (simp <;> omega)) | (with_reducible refine below_drew ?_) | (with_reducible refine below_drewN ?_ _) | (with_reducible refine below_after ?_ (by assumption))))⟩
  · have hz2 := szL_bd (n := n') hz.2 hz.1
    have H := Lib.hid hs
    by_cases hs2 : szL n' (szL n k) < 0
    all_goals
      go_enter Tryz.func17, Tryz.ntmps17
      go_wp2_with (go_at_call 53; refine (szBoxS_any _ _ _ _ _ (by omega) (by omega) (by omega)).mono ?_; rintro e w' ⟨rfl, rfl⟩)
      go_ret
      exact ⟨ret_int (by unfold szLev; rw [if_neg (by have := H.out; omega)]; try omega), by (repeat (first | (with_reducible assumption) | (with_reducible exact Below.refl _ _) | (with_reducible refine below_alloc ?_ _) | (with_reducible refine below_setCell ?_ ?_ _; (simp <;> omega)) | (with_reducible refine below_drew ?_) | (with_reducible refine below_drewN ?_ _) | (with_reducible refine below_after ?_ (by assumption))))⟩
theorem own_none {α : Type} {w : World} {B : Nat} {T : TypeId} {sz : Nat} {enc : α → List Value} {A : Option Addr} {n c : Nat} {l : List α} (h : Own w B T sz enc (.slice A n c) l) : A = none → c = 0 := by
  intro e
  subst e
  rcases h.2 with ⟨h0, _⟩ | ⟨g, cap, cur, h0, _⟩
  · injection h0
  · injection h0 with h0
    cases h0
/-- A call hands back a level whose two slices are the call's own. -/
def RetLev (l : Lev) (w : World) (e : Ending) (w' : World) : Prop :=
  ∃ A c A' c', e = .returned (.agg #[.int .i64 l.id, .int .i64 l.ticks, .int .i64 l.start.x, .int .i64 l.start.y, .slice A l.walls.length c, .slice A' l.gates.length c', .int .i64 l.fin.lo.x, .int .i64 l.fin.lo.y, .int .i64 l.fin.hi.x, .int .i64 l.fin.hi.y, .int .i64 l.bans]) ∧ Own w' w.heap.size 27 4 encBx (.slice A l.walls.length c) l.walls ∧ Own w' w.heap.size 27 4 encBx (.slice A' l.gates.length c') l.gates ∧ Below w.heap.size w w'
/-- .. and the gates' block lies behind the walls'. -/
def RetLevS (l : Lev) (w : World) (e : Ending) (w' : World) : Prop :=
  ∃ A c A' c', e = .returned (.agg #[.int .i64 l.id, .int .i64 l.ticks, .int .i64 l.start.x, .int .i64 l.start.y, .slice A l.walls.length c, .slice A' l.gates.length c', .int .i64 l.fin.lo.x, .int .i64 l.fin.lo.y, .int .i64 l.fin.hi.x, .int .i64 l.fin.hi.y, .int .i64 l.bans]) ∧ Own w' w.heap.size 27 4 encBx (.slice A l.walls.length c) l.walls ∧ Own w' w.heap.size 27 4 encBx (.slice A' l.gates.length c') l.gates ∧ Below w.heap.size w w' ∧ (∀ g g', (Value.slice A l.walls.length c).ownBlock = some g → (Value.slice A' l.gates.length c').ownBlock = some g' → g < g')
set_option maxRecDepth 100000 in
set_option maxHeartbeats 2000000 in
theorem toLevel_sep (l : Lev) (A A' : Option Addr) (c c' : Nat) (w : World) (h : Sl w 4 encBx A l.walls.length l.walls) (h' : Sl w 4 encBx A' l.gates.length l.gates) (hn : l.walls.length ≤ 2097152) (hn' : l.gates.length ≤ 2097152) :
    Calls Tryz.prog 19 #[.agg #[.int .i64 l.id, .int .i64 l.ticks, .int .i64 l.start.x, .int .i64 l.start.y, .slice A l.walls.length c, .slice A' l.gates.length c', .int .i64 l.fin.lo.x, .int .i64 l.fin.lo.y, .int .i64 l.fin.hi.x, .int .i64 l.fin.hi.y, .int .i64 l.bans]] w (RetLevS l w) := by
  go_enter Tryz.func19, Tryz.ntmps19
  go_wp2_with fail
  refine (toVec_any l.start.x l.start.y _).mono ?_
  rintro e w1 ⟨rfl, hb1⟩
  have LA1 : Bk w1 w.heap.size 53 #[.int .i64 l.id, .int .i64 l.ticks, .int .i64 l.start.x, .int .i64 l.start.y, .slice A l.walls.length c, .slice A' l.gates.length c', .int .i64 l.fin.lo.x, .int .i64 l.fin.lo.y, .int .i64 l.fin.hi.x, .int .i64 l.fin.hi.y, .int .i64 l.bans] := Bk.later (by (repeat (first | (with_reducible assumption) | (with_reducible exact Bk.new _ _ _ (by simp; done)) | (with_reducible refine Bk.alloc ?_ _) | (with_reducible refine Bk.drew ?_) | (with_reducible refine Bk.drewN ?_ _) | (with_reducible apply Bk.set') | (with_reducible refine Bk.far ?_ (by first | omega | (simp; done) | (simp; omega)) _) | (with_reducible refine Bk.later ?_ (by assumption)) | (with_reducible refine Bk.grown ?_ (by assumption) (by first | omega | (simp; done) | (simp; omega))) | (exact SetTo.mk (by with_reducible rfl)) | (exact SetTo.mk (by simp))))) hb1
  have O1 : Bk w1 (w.heap.size + 1) 29 #[.int .i64 0, .int .i64 0, .int .i64 0, .int .i64 0, .slice none 0 0, .slice none 0 0, .int .i64 0, .int .i64 0, .int .i64 0, .int .i64 0, .int .i64 0] := Bk.later (by (repeat (first | (with_reducible assumption) | (with_reducible exact Bk.new _ _ _ (by simp; done)) | (with_reducible refine Bk.alloc ?_ _) | (with_reducible refine Bk.drew ?_) | (with_reducible refine Bk.drewN ?_ _) | (with_reducible apply Bk.set') | (with_reducible refine Bk.far ?_ (by first | omega | (simp; done) | (simp; omega)) _) | (with_reducible refine Bk.later ?_ (by assumption)) | (with_reducible refine Bk.grown ?_ (by assumption) (by first | omega | (simp; done) | (simp; omega))) | (exact SetTo.mk (by with_reducible rfl)) | (exact SetTo.mk (by simp))))) hb1
  have X1 : Bk w1 (w.heap.size + 1 + 1) 29 #[.int .i64 l.id, .int .i64 l.ticks, .int .i64 0, .int .i64 0, .slice none 0 0, .slice none 0 0, .int .i64 0, .int .i64 0, .int .i64 0, .int .i64 0, .int .i64 0] := Bk.later (by (repeat (first | (with_reducible assumption) | (with_reducible exact Bk.new _ _ _ (by simp; done)) | (with_reducible refine Bk.alloc ?_ _) | (with_reducible refine Bk.drew ?_) | (with_reducible refine Bk.drewN ?_ _) | (with_reducible apply Bk.set') | (with_reducible refine Bk.far ?_ (by first | omega | (simp; done) | (simp; omega)) _) | (with_reducible refine Bk.later ?_ (by assumption)) | (with_reducible refine Bk.grown ?_ (by assumption) (by first | omega | (simp; done) | (simp; omega))) | (exact SetTo.mk (by with_reducible rfl)) | (exact SetTo.mk (by simp))))) hb1
  have d1 : Below w.heap.size w w1 := by (repeat (first | (with_reducible assumption) | (with_reducible exact Below.refl _ _) | (with_reducible refine below_alloc ?_ _) | (with_reducible refine below_setCell ?_ ?_ _; (simp <;> omega)) | (with_reducible refine below_drew ?_) | (with_reducible refine below_drewN ?_ _) | (with_reducible refine below_after ?_ (by assumption))))
  have y1 := LA1.lt; have yy1 := O1.lt; have z1 := X1.lt
  clear hb1
  obtain ⟨⟨a0, a1, a2, a3, a4, a5, a6, a7, a8, a9, a10⟩, af⟩ := LA1.c11; obtain ⟨⟨x0, x1, x2, x3, x4, x5, x6, x7, x8, x9, x10⟩, xf⟩ := X1.c11
  go_wp2_with fail
  refine (toBoxS_any A l.walls.length c l.walls _ (h.below (by (repeat (first | (with_reducible assumption) | (with_reducible exact Below.refl _ _) | (with_reducible refine below_alloc ?_ _) | (with_reducible refine below_setCell ?_ ?_ _; (simp <;> omega)) | (with_reducible refine below_drew ?_) | (with_reducible refine below_drewN ?_ _) | (with_reducible refine below_after ?_ (by assumption)))))) hn).mono ?_
  rintro e w2 ⟨A2, c2, rfl, hc2, G2, hb2⟩
  have LA2 : Bk w2 w.heap.size 53 #[.int .i64 l.id, .int .i64 l.ticks, .int .i64 l.start.x, .int .i64 l.start.y, .slice A l.walls.length c, .slice A' l.gates.length c', .int .i64 l.fin.lo.x, .int .i64 l.fin.lo.y, .int .i64 l.fin.hi.x, .int .i64 l.fin.hi.y, .int .i64 l.bans] := Bk.later (by (repeat (first | (with_reducible assumption) | (with_reducible exact Bk.new _ _ _ (by simp; done)) | (with_reducible refine Bk.alloc ?_ _) | (with_reducible refine Bk.drew ?_) | (with_reducible refine Bk.drewN ?_ _) | (with_reducible apply Bk.set') | (with_reducible refine Bk.far ?_ (by first | omega | (simp; done) | (simp; omega)) _) | (with_reducible refine Bk.later ?_ (by assumption)) | (with_reducible refine Bk.grown ?_ (by assumption) (by first | omega | (simp; done) | (simp; omega))) | (exact SetTo.mk (by with_reducible rfl)) | (exact SetTo.mk (by simp))))) hb2
  have O2 : Bk w2 (w.heap.size + 1) 29 #[.int .i64 0, .int .i64 0, .int .i64 0, .int .i64 0, .slice none 0 0, .slice none 0 0, .int .i64 0, .int .i64 0, .int .i64 0, .int .i64 0, .int .i64 0] := Bk.later (by (repeat (first | (with_reducible assumption) | (with_reducible exact Bk.new _ _ _ (by simp; done)) | (with_reducible refine Bk.alloc ?_ _) | (with_reducible refine Bk.drew ?_) | (with_reducible refine Bk.drewN ?_ _) | (with_reducible apply Bk.set') | (with_reducible refine Bk.far ?_ (by first | omega | (simp; done) | (simp; omega)) _) | (with_reducible refine Bk.later ?_ (by assumption)) | (with_reducible refine Bk.grown ?_ (by assumption) (by first | omega | (simp; done) | (simp; omega))) | (exact SetTo.mk (by with_reducible rfl)) | (exact SetTo.mk (by simp))))) hb2
  have X2 : Bk w2 (w.heap.size + 1 + 1) 29 #[.int .i64 l.id, .int .i64 l.ticks, .int .i64 l.start.x, .int .i64 l.start.y, .slice none 0 0, .slice none 0 0, .int .i64 0, .int .i64 0, .int .i64 0, .int .i64 0, .int .i64 0] := Bk.later (by (repeat (first | (with_reducible assumption) | (with_reducible exact Bk.new _ _ _ (by simp; done)) | (with_reducible refine Bk.alloc ?_ _) | (with_reducible refine Bk.drew ?_) | (with_reducible refine Bk.drewN ?_ _) | (with_reducible apply Bk.set') | (with_reducible refine Bk.far ?_ (by first | omega | (simp; done) | (simp; omega)) _) | (with_reducible refine Bk.later ?_ (by assumption)) | (with_reducible refine Bk.grown ?_ (by assumption) (by first | omega | (simp; done) | (simp; omega))) | (exact SetTo.mk (by with_reducible rfl)) | (exact SetTo.mk (by simp))))) hb2
  have d2 : Below w.heap.size w w2 := by (repeat (first | (with_reducible assumption) | (with_reducible exact Below.refl _ _) | (with_reducible refine below_alloc ?_ _) | (with_reducible refine below_setCell ?_ ?_ _; (simp <;> omega)) | (with_reducible refine below_drew ?_) | (with_reducible refine below_drewN ?_ _) | (with_reducible refine below_after ?_ (by assumption))))
  have y2 := LA2.lt; have yy2 := O2.lt; have z2 := X2.lt
  have H2 : Own w2 (w.heap.size + 3) 27 4 encBx (.slice A2 l.walls.length c2) l.walls := G2.mono (by simp; omega)
  have hG2 := Lib.hid G2.lt
  clear G2
  clear hb2 a0 a1 a2 a3 a4 a5 a6 a7 a8 a9 a10 af x0 x1 x2 x3 x4 x5 x6 x7 x8 x9 x10 xf LA1 O1 X1 d1 y1 yy1 z1
  obtain ⟨⟨a0, a1, a2, a3, a4, a5, a6, a7, a8, a9, a10⟩, af⟩ := LA2.c11; obtain ⟨⟨x0, x1, x2, x3, x4, x5, x6, x7, x8, x9, x10⟩, xf⟩ := X2.c11
  go_wp2_with fail
  refine (toBoxS_any A' l.gates.length c' l.gates _ (h'.below (by (repeat (first | (with_reducible assumption) | (with_reducible exact Below.refl _ _) | (with_reducible refine below_alloc ?_ _) | (with_reducible refine below_setCell ?_ ?_ _; (simp <;> omega)) | (with_reducible refine below_drew ?_) | (with_reducible refine below_drewN ?_ _) | (with_reducible refine below_after ?_ (by assumption)))))) hn').mono ?_
  rintro e w3 ⟨A3, c3, rfl, hc3, G3, hb3⟩
  have LA3 : Bk w3 w.heap.size 53 #[.int .i64 l.id, .int .i64 l.ticks, .int .i64 l.start.x, .int .i64 l.start.y, .slice A l.walls.length c, .slice A' l.gates.length c', .int .i64 l.fin.lo.x, .int .i64 l.fin.lo.y, .int .i64 l.fin.hi.x, .int .i64 l.fin.hi.y, .int .i64 l.bans] := Bk.later (by (repeat (first | (with_reducible assumption) | (with_reducible exact Bk.new _ _ _ (by simp; done)) | (with_reducible refine Bk.alloc ?_ _) | (with_reducible refine Bk.drew ?_) | (with_reducible refine Bk.drewN ?_ _) | (with_reducible apply Bk.set') | (with_reducible refine Bk.far ?_ (by first | omega | (simp; done) | (simp; omega)) _) | (with_reducible refine Bk.later ?_ (by assumption)) | (with_reducible refine Bk.grown ?_ (by assumption) (by first | omega | (simp; done) | (simp; omega))) | (exact SetTo.mk (by with_reducible rfl)) | (exact SetTo.mk (by simp))))) hb3
  have O3 : Bk w3 (w.heap.size + 1) 29 #[.int .i64 0, .int .i64 0, .int .i64 0, .int .i64 0, .slice none 0 0, .slice none 0 0, .int .i64 0, .int .i64 0, .int .i64 0, .int .i64 0, .int .i64 0] := Bk.later (by (repeat (first | (with_reducible assumption) | (with_reducible exact Bk.new _ _ _ (by simp; done)) | (with_reducible refine Bk.alloc ?_ _) | (with_reducible refine Bk.drew ?_) | (with_reducible refine Bk.drewN ?_ _) | (with_reducible apply Bk.set') | (with_reducible refine Bk.far ?_ (by first | omega | (simp; done) | (simp; omega)) _) | (with_reducible refine Bk.later ?_ (by assumption)) | (with_reducible refine Bk.grown ?_ (by assumption) (by first | omega | (simp; done) | (simp; omega))) | (exact SetTo.mk (by with_reducible rfl)) | (exact SetTo.mk (by simp))))) hb3
  have X3 : Bk w3 (w.heap.size + 1 + 1) 29 #[.int .i64 l.id, .int .i64 l.ticks, .int .i64 l.start.x, .int .i64 l.start.y, .slice A2 l.walls.length c2, .slice none 0 0, .int .i64 0, .int .i64 0, .int .i64 0, .int .i64 0, .int .i64 0] := Bk.later (by (repeat (first | (with_reducible assumption) | (with_reducible exact Bk.new _ _ _ (by simp; done)) | (with_reducible refine Bk.alloc ?_ _) | (with_reducible refine Bk.drew ?_) | (with_reducible refine Bk.drewN ?_ _) | (with_reducible apply Bk.set') | (with_reducible refine Bk.far ?_ (by first | omega | (simp; done) | (simp; omega)) _) | (with_reducible refine Bk.later ?_ (by assumption)) | (with_reducible refine Bk.grown ?_ (by assumption) (by first | omega | (simp; done) | (simp; omega))) | (exact SetTo.mk (by with_reducible rfl)) | (exact SetTo.mk (by simp))))) hb3
  have d3 : Below w.heap.size w w3 := by (repeat (first | (with_reducible assumption) | (with_reducible exact Below.refl _ _) | (with_reducible refine below_alloc ?_ _) | (with_reducible refine below_setCell ?_ ?_ _; (simp <;> omega)) | (with_reducible refine below_drew ?_) | (with_reducible refine below_drewN ?_ _) | (with_reducible refine below_after ?_ (by assumption))))
  have y3 := LA3.lt; have yy3 := O3.lt; have z3 := X3.lt
  have I3 : Own w3 (w.heap.size + 3) 27 4 encBx (.slice A3 l.gates.length c3) l.gates := G3.mono (by simp; omega)
  have H3 : Own w3 (w.heap.size + 3) 27 4 encBx (.slice A2 l.walls.length c2) l.walls := Own.later (by (repeat (first | (with_reducible assumption) | (with_reducible refine Own.alloc ?_ _) | (with_reducible refine Own.drew ?_) | (with_reducible refine Own.set (by first | omega | (simp; done) | (simp; omega)) ?_ _)))) hb3
  have hG3 := Lib.hid G3.lt
  clear G3 H2
  clear hb3 a0 a1 a2 a3 a4 a5 a6 a7 a8 a9 a10 af x0 x1 x2 x3 x4 x5 x6 x7 x8 x9 x10 xf LA2 O2 X2 d2 y2 yy2 z2
  obtain ⟨⟨a0, a1, a2, a3, a4, a5, a6, a7, a8, a9, a10⟩, af⟩ := LA3.c11; obtain ⟨⟨x0, x1, x2, x3, x4, x5, x6, x7, x8, x9, x10⟩, xf⟩ := X3.c11
  go_wp2_with fail
  refine (toBox_any l.fin _).mono ?_
  rintro e w4 ⟨rfl, hb4⟩
  have O4 : Bk w4 (w.heap.size + 1) 29 #[.int .i64 0, .int .i64 0, .int .i64 0, .int .i64 0, .slice none 0 0, .slice none 0 0, .int .i64 0, .int .i64 0, .int .i64 0, .int .i64 0, .int .i64 0] := Bk.later (by (repeat (first | (with_reducible assumption) | (with_reducible exact Bk.new _ _ _ (by simp; done)) | (with_reducible refine Bk.alloc ?_ _) | (with_reducible refine Bk.drew ?_) | (with_reducible refine Bk.drewN ?_ _) | (with_reducible apply Bk.set') | (with_reducible refine Bk.far ?_ (by first | omega | (simp; done) | (simp; omega)) _) | (with_reducible refine Bk.later ?_ (by assumption)) | (with_reducible refine Bk.grown ?_ (by assumption) (by first | omega | (simp; done) | (simp; omega))) | (exact SetTo.mk (by with_reducible rfl)) | (exact SetTo.mk (by simp))))) hb4
  have LA4 : Bk w4 w.heap.size 53 #[.int .i64 l.id, .int .i64 l.ticks, .int .i64 l.start.x, .int .i64 l.start.y, .slice A l.walls.length c, .slice A' l.gates.length c', .int .i64 l.fin.lo.x, .int .i64 l.fin.lo.y, .int .i64 l.fin.hi.x, .int .i64 l.fin.hi.y, .int .i64 l.bans] := Bk.later (by (repeat (first | (with_reducible assumption) | (with_reducible exact Bk.new _ _ _ (by simp; done)) | (with_reducible refine Bk.alloc ?_ _) | (with_reducible refine Bk.drew ?_) | (with_reducible refine Bk.drewN ?_ _) | (with_reducible apply Bk.set') | (with_reducible refine Bk.far ?_ (by first | omega | (simp; done) | (simp; omega)) _) | (with_reducible refine Bk.later ?_ (by assumption)) | (with_reducible refine Bk.grown ?_ (by assumption) (by first | omega | (simp; done) | (simp; omega))) | (exact SetTo.mk (by with_reducible rfl)) | (exact SetTo.mk (by simp))))) hb4
  have X4 : Bk w4 (w.heap.size + 1 + 1) 29 #[.int .i64 l.id, .int .i64 l.ticks, .int .i64 l.start.x, .int .i64 l.start.y, .slice A2 l.walls.length c2, .slice A3 l.gates.length c3, .int .i64 0, .int .i64 0, .int .i64 0, .int .i64 0, .int .i64 0] := Bk.later (by (repeat (first | (with_reducible assumption) | (with_reducible exact Bk.new _ _ _ (by simp; done)) | (with_reducible refine Bk.alloc ?_ _) | (with_reducible refine Bk.drew ?_) | (with_reducible refine Bk.drewN ?_ _) | (with_reducible apply Bk.set') | (with_reducible refine Bk.far ?_ (by first | omega | (simp; done) | (simp; omega)) _) | (with_reducible refine Bk.later ?_ (by assumption)) | (with_reducible refine Bk.grown ?_ (by assumption) (by first | omega | (simp; done) | (simp; omega))) | (exact SetTo.mk (by with_reducible rfl)) | (exact SetTo.mk (by simp))))) hb4
  have d4 : Below w.heap.size w w4 := by (repeat (first | (with_reducible assumption) | (with_reducible exact Below.refl _ _) | (with_reducible refine below_alloc ?_ _) | (with_reducible refine below_setCell ?_ ?_ _; (simp <;> omega)) | (with_reducible refine below_drew ?_) | (with_reducible refine below_drewN ?_ _) | (with_reducible refine below_after ?_ (by assumption))))
  have H4 : Own w4 (w.heap.size + 3) 27 4 encBx (.slice A2 l.walls.length c2) l.walls := Own.later (by (repeat (first | (with_reducible assumption) | (with_reducible refine Own.alloc ?_ _) | (with_reducible refine Own.drew ?_) | (with_reducible refine Own.set (by first | omega | (simp; done) | (simp; omega)) ?_ _)))) hb4
  have I4 : Own w4 (w.heap.size + 3) 27 4 encBx (.slice A3 l.gates.length c3) l.gates := Own.later (by (repeat (first | (with_reducible assumption) | (with_reducible refine Own.alloc ?_ _) | (with_reducible refine Own.drew ?_) | (with_reducible refine Own.set (by first | omega | (simp; done) | (simp; omega)) ?_ _)))) hb4
  clear hb4 a0 a1 a2 a3 a4 a5 a6 a7 a8 a9 a10 af x0 x1 x2 x3 x4 x5 x6 x7 x8 x9 x10 xf LA3 O3 X3 d3 y3 yy3 z3 H3 I3
  have y4 := LA4.lt; have yy4 := O4.lt; have z4 := X4.lt
  obtain ⟨⟨a0, a1, a2, a3, a4, a5, a6, a7, a8, a9, a10⟩, af⟩ := LA4.c11; obtain ⟨⟨x0, x1, x2, x3, x4, x5, x6, x7, x8, x9, x10⟩, xf⟩ := X4.c11; obtain ⟨⟨o0, o1, o2, o3, o4, o5, o6, o7, o8, o9, o10⟩, of⟩ := O4.c11
  go_wp2
  refine bodyPost_ret (v := .agg #[.int .i64 l.id, .int .i64 l.ticks, .int .i64 l.start.x, .int .i64 l.start.y, .slice A2 l.walls.length c2, .slice A3 l.gates.length c3, .int .i64 l.fin.lo.x, .int .i64 l.fin.lo.y, .int .i64 l.fin.hi.x, .int .i64 l.fin.hi.y, .int .i64 l.bans]) (by simp [results, Tryz.results19, go_sem, *]) rfl ⟨A2, c2, A3, c3, rfl, Own.mono (B := w.heap.size + 3) (by (repeat (first | (with_reducible assumption) | (with_reducible refine Own.alloc ?_ _) | (with_reducible refine Own.drew ?_) | (with_reducible refine Own.set (by first | omega | (simp; done) | (simp; omega)) ?_ _)))) (by omega), Own.mono (B := w.heap.size + 3) (by (repeat (first | (with_reducible assumption) | (with_reducible refine Own.alloc ?_ _) | (with_reducible refine Own.drew ?_) | (with_reducible refine Own.set (by first | omega | (simp; done) | (simp; omega)) ?_ _)))) (by omega), by (repeat (first | (with_reducible assumption) | (with_reducible exact Below.refl _ _) | (with_reducible refine below_alloc ?_ _) | (with_reducible refine below_setCell ?_ ?_ _; (simp <;> omega)) | (with_reducible refine below_drew ?_) | (with_reducible refine below_drewN ?_ _) | (with_reducible refine below_after ?_ (by assumption)))), fun g g' e1 e2 => by have := (hG2.out g e1).2; have := (hG3.out g' e2).1; simp at this; omega⟩
theorem toLevel_any (l : Lev) (A A' : Option Addr) (c c' : Nat) (w : World) (h : Sl w 4 encBx A l.walls.length l.walls) (h' : Sl w 4 encBx A' l.gates.length l.gates) (hn : l.walls.length ≤ 2097152) (hn' : l.gates.length ≤ 2097152) :
    Calls Tryz.prog 19 #[.agg #[.int .i64 l.id, .int .i64 l.ticks, .int .i64 l.start.x, .int .i64 l.start.y, .slice A l.walls.length c, .slice A' l.gates.length c', .int .i64 l.fin.lo.x, .int .i64 l.fin.lo.y, .int .i64 l.fin.hi.x, .int .i64 l.fin.hi.y, .int .i64 l.bans]] w (RetLev l w) :=
  (toLevel_sep l A A' c c' w h h' hn hn').mono fun _ _ ⟨A1, c1, A2, c2, h1, h2, h3, h4, _⟩ => ⟨A1, c1, A2, c2, h1, h2, h3, h4⟩
theorem eqV2_self (v : V2) : eqV2 v v = true := (eqV2_iff _ _).2 rfl
theorem eqBx_self (b : Bx) : eqBx b b = true := (eqBx_iff _ _).2 rfl
theorem eqL_self {α : Type} {p : α → α → Bool} (hp : ∀ x y, p x y = true ↔ x = y) (l : List α) : eqL p l l = true := (eqL_iff hp l l).2 rfl
set_option maxRecDepth 100000 in
set_option maxHeartbeats 2000000 in
theorem eqLevel_same (l : Lev) (A A' E E' : Option Addr) (c c' k k' : Nat) (w : World) (h : Sl w 4 encBx A l.walls.length l.walls) (h' : Sl w 4 encBx A' l.gates.length l.gates) (g : Sl w 4 encBx E l.walls.length l.walls) (g' : Sl w 4 encBx E' l.gates.length l.gates) (hn : l.walls.length ≤ 2097152) (hn' : l.gates.length ≤ 2097152) :
    Calls Tryz.prog 22 #[.agg #[.int .i64 l.id, .int .i64 l.ticks, .int .i64 l.start.x, .int .i64 l.start.y, .slice A l.walls.length c, .slice A' l.gates.length c', .int .i64 l.fin.lo.x, .int .i64 l.fin.lo.y, .int .i64 l.fin.hi.x, .int .i64 l.fin.hi.y, .int .i64 l.bans], .agg #[.int .i64 l.id, .int .i64 l.ticks, .int .i64 l.start.x, .int .i64 l.start.y, .slice E l.walls.length k, .slice E' l.gates.length k', .int .i64 l.fin.lo.x, .int .i64 l.fin.lo.y, .int .i64 l.fin.hi.x, .int .i64 l.fin.hi.y, .int .i64 l.bans]] w fun e w' => e = .returned (.bool (true)) ∧ Below w.heap.size w w' := by
  go_enter Tryz.func22, Tryz.ntmps22
  go_wp2_with fail
  refine (eqVec_any l.start l.start _).mono ?_
  rw [eqV2_self]
  rintro e w1 ⟨rfl, hb1⟩
  have P1 : Bk w1 w.heap.size 29 #[.int .i64 l.id, .int .i64 l.ticks, .int .i64 l.start.x, .int .i64 l.start.y, .slice A l.walls.length c, .slice A' l.gates.length c', .int .i64 l.fin.lo.x, .int .i64 l.fin.lo.y, .int .i64 l.fin.hi.x, .int .i64 l.fin.hi.y, .int .i64 l.bans] := Bk.later ((Bk.new _ _ _ rfl).alloc _) hb1
  have Q1 : Bk w1 (w.heap.size + 1) 29 #[.int .i64 l.id, .int .i64 l.ticks, .int .i64 l.start.x, .int .i64 l.start.y, .slice E l.walls.length k, .slice E' l.gates.length k', .int .i64 l.fin.lo.x, .int .i64 l.fin.lo.y, .int .i64 l.fin.hi.x, .int .i64 l.fin.hi.y, .int .i64 l.bans] := Bk.later (Bk.new _ _ _ (by simp)) hb1
  have d1 : Below w.heap.size w w1 := by (repeat (first | (with_reducible assumption) | (with_reducible exact Below.refl _ _) | (with_reducible refine below_alloc ?_ _) | (with_reducible refine below_setCell ?_ ?_ _; (simp <;> omega)) | (with_reducible refine below_drew ?_) | (with_reducible refine below_drewN ?_ _) | (with_reducible refine below_after ?_ (by assumption))))
  clear hb1
  obtain ⟨⟨p0, p1, p2, p3, p4, p5, p6, p7, p8, p9, p10⟩, pf⟩ := P1.c11; obtain ⟨⟨q0, q1, q2, q3, q4, q5, q6, q7, q8, q9, q10⟩, qf⟩ := Q1.c11
  go_wp2_with fail
  refine (eqBoxS_any A E l.walls.length l.walls.length c k l.walls l.walls _ (h.below (by (repeat (first | (with_reducible assumption) | (with_reducible exact Below.refl _ _) | (with_reducible refine below_alloc ?_ _) | (with_reducible refine below_setCell ?_ ?_ _; (simp <;> omega)) | (with_reducible refine below_drew ?_) | (with_reducible refine below_drewN ?_ _) | (with_reducible refine below_after ?_ (by assumption)))))) (g.below (by (repeat (first | (with_reducible assumption) | (with_reducible exact Below.refl _ _) | (with_reducible refine below_alloc ?_ _) | (with_reducible refine below_setCell ?_ ?_ _; (simp <;> omega)) | (with_reducible refine below_drew ?_) | (with_reducible refine below_drewN ?_ _) | (with_reducible refine below_after ?_ (by assumption)))))) hn hn).mono ?_
  rw [eqL_self eqBx_iff]
  rintro e w2 ⟨rfl, hb2⟩
  have P2 : Bk w2 w.heap.size 29 #[.int .i64 l.id, .int .i64 l.ticks, .int .i64 l.start.x, .int .i64 l.start.y, .slice A l.walls.length c, .slice A' l.gates.length c', .int .i64 l.fin.lo.x, .int .i64 l.fin.lo.y, .int .i64 l.fin.hi.x, .int .i64 l.fin.hi.y, .int .i64 l.bans] := P1.later hb2
  have Q2 : Bk w2 (w.heap.size + 1) 29 #[.int .i64 l.id, .int .i64 l.ticks, .int .i64 l.start.x, .int .i64 l.start.y, .slice E l.walls.length k, .slice E' l.gates.length k', .int .i64 l.fin.lo.x, .int .i64 l.fin.lo.y, .int .i64 l.fin.hi.x, .int .i64 l.fin.hi.y, .int .i64 l.bans] := Q1.later hb2
  have d2 : Below w.heap.size w w2 := by (repeat (first | (with_reducible assumption) | (with_reducible exact Below.refl _ _) | (with_reducible refine below_alloc ?_ _) | (with_reducible refine below_setCell ?_ ?_ _; (simp <;> omega)) | (with_reducible refine below_drew ?_) | (with_reducible refine below_drewN ?_ _) | (with_reducible refine below_after ?_ (by assumption))))
  clear hb2 p0 p1 p2 p3 p4 p5 p6 p7 p8 p9 p10 pf q0 q1 q2 q3 q4 q5 q6 q7 q8 q9 q10 qf P1 Q1 d1
  obtain ⟨⟨p0, p1, p2, p3, p4, p5, p6, p7, p8, p9, p10⟩, pf⟩ := P2.c11; obtain ⟨⟨q0, q1, q2, q3, q4, q5, q6, q7, q8, q9, q10⟩, qf⟩ := Q2.c11
  go_wp2_with fail
  refine (eqBoxS_any A' E' l.gates.length l.gates.length c' k' l.gates l.gates _ (h'.below (by (repeat (first | (with_reducible assumption) | (with_reducible exact Below.refl _ _) | (with_reducible refine below_alloc ?_ _) | (with_reducible refine below_setCell ?_ ?_ _; (simp <;> omega)) | (with_reducible refine below_drew ?_) | (with_reducible refine below_drewN ?_ _) | (with_reducible refine below_after ?_ (by assumption)))))) (g'.below (by (repeat (first | (with_reducible assumption) | (with_reducible exact Below.refl _ _) | (with_reducible refine below_alloc ?_ _) | (with_reducible refine below_setCell ?_ ?_ _; (simp <;> omega)) | (with_reducible refine below_drew ?_) | (with_reducible refine below_drewN ?_ _) | (with_reducible refine below_after ?_ (by assumption)))))) hn' hn').mono ?_
  rw [eqL_self eqBx_iff]
  rintro e w3 ⟨rfl, hb3⟩
  have P3 : Bk w3 w.heap.size 29 #[.int .i64 l.id, .int .i64 l.ticks, .int .i64 l.start.x, .int .i64 l.start.y, .slice A l.walls.length c, .slice A' l.gates.length c', .int .i64 l.fin.lo.x, .int .i64 l.fin.lo.y, .int .i64 l.fin.hi.x, .int .i64 l.fin.hi.y, .int .i64 l.bans] := P2.later hb3
  have Q3 : Bk w3 (w.heap.size + 1) 29 #[.int .i64 l.id, .int .i64 l.ticks, .int .i64 l.start.x, .int .i64 l.start.y, .slice E l.walls.length k, .slice E' l.gates.length k', .int .i64 l.fin.lo.x, .int .i64 l.fin.lo.y, .int .i64 l.fin.hi.x, .int .i64 l.fin.hi.y, .int .i64 l.bans] := Q2.later hb3
  have d3 : Below w.heap.size w w3 := by (repeat (first | (with_reducible assumption) | (with_reducible exact Below.refl _ _) | (with_reducible refine below_alloc ?_ _) | (with_reducible refine below_setCell ?_ ?_ _; (simp <;> omega)) | (with_reducible refine below_drew ?_) | (with_reducible refine below_drewN ?_ _) | (with_reducible refine below_after ?_ (by assumption))))
  clear hb3 p0 p1 p2 p3 p4 p5 p6 p7 p8 p9 p10 pf q0 q1 q2 q3 q4 q5 q6 q7 q8 q9 q10 qf P2 Q2 d2
  obtain ⟨⟨p0, p1, p2, p3, p4, p5, p6, p7, p8, p9, p10⟩, pf⟩ := P3.c11; obtain ⟨⟨q0, q1, q2, q3, q4, q5, q6, q7, q8, q9, q10⟩, qf⟩ := Q3.c11
  go_wp2_with fail
  refine (eqBox_any l.fin l.fin _).mono ?_
  rw [eqBx_self]
  rintro e w4 ⟨rfl, hb4⟩
  have P4 : Bk w4 w.heap.size 29 #[.int .i64 l.id, .int .i64 l.ticks, .int .i64 l.start.x, .int .i64 l.start.y, .slice A l.walls.length c, .slice A' l.gates.length c', .int .i64 l.fin.lo.x, .int .i64 l.fin.lo.y, .int .i64 l.fin.hi.x, .int .i64 l.fin.hi.y, .int .i64 l.bans] := P3.later hb4
  have Q4 : Bk w4 (w.heap.size + 1) 29 #[.int .i64 l.id, .int .i64 l.ticks, .int .i64 l.start.x, .int .i64 l.start.y, .slice E l.walls.length k, .slice E' l.gates.length k', .int .i64 l.fin.lo.x, .int .i64 l.fin.lo.y, .int .i64 l.fin.hi.x, .int .i64 l.fin.hi.y, .int .i64 l.bans] := Q3.later hb4
  have d4 : Below w.heap.size w w4 := by (repeat (first | (with_reducible assumption) | (with_reducible exact Below.refl _ _) | (with_reducible refine below_alloc ?_ _) | (with_reducible refine below_setCell ?_ ?_ _; (simp <;> omega)) | (with_reducible refine below_drew ?_) | (with_reducible refine below_drewN ?_ _) | (with_reducible refine below_after ?_ (by assumption))))
  clear hb4 p0 p1 p2 p3 p4 p5 p6 p7 p8 p9 p10 pf q0 q1 q2 q3 q4 q5 q6 q7 q8 q9 q10 qf P3 Q3 d3
  obtain ⟨⟨p0, p1, p2, p3, p4, p5, p6, p7, p8, p9, p10⟩, pf⟩ := P4.c11; obtain ⟨⟨q0, q1, q2, q3, q4, q5, q6, q7, q8, q9, q10⟩, qf⟩ := Q4.c11
  go_wp2
  go_ret
  exact ⟨rfl, by (repeat (first | (with_reducible assumption) | (with_reducible exact Below.refl _ _) | (with_reducible refine below_alloc ?_ _) | (with_reducible refine below_setCell ?_ ?_ _; (simp <;> omega)) | (with_reducible refine below_drew ?_) | (with_reducible refine below_drewN ?_ _) | (with_reducible refine below_after ?_ (by assumption))))⟩
end Go.Proofs.YtmfhfebakdkkdaaGreat

/- Small laws of sizes; two levels' cells stand. (Round B) -/
namespace Go.Proofs.YtmfhfebakdkkdaaGreat
open Go.ChangeShapes Go.WideShapes Go.ChangeAt Go.RowKit
theorem szLev_bd {n n' : Nat} : -1 ≤ szLev n n' 1048576 ∧ szLev n n' 1048576 ≤ 1048576 := by
  unfold szLev szL
  (repeat' split) <;> omega
theorem szLev_ok {n n' : Nat} (h : ¬ szLev n n' 1048576 < 0) : n ≤ 1048576 ∧ n' ≤ 1048576 := by
  unfold szLev szL at h
  (repeat' split at h) <;> omega
theorem szL_le {n : Nat} {k : Int} (hk : k ≤ 1048576) (h : ¬ szL n k < 0) : n ≤ 1048576 := by
  unfold szL at h
  split at h <;> omega
theorem keepLL {W w' : World} {g g' : Nat} {t t' : TypeId} {v0 v1 v2 v3 v4 v5 v6 v7 v8 v9 v10 u0 u1 u2 u3 u4 u5 u6 u7 u8 u9 u10 : Value} (h : Bk W g t #[v0, v1, v2, v3, v4, v5, v6, v7, v8, v9, v10]) (h' : Bk W g' t' #[u0, u1, u2, u3, u4, u5, u6, u7, u8, u9, u10]) (hb : Below W.heap.size W w') :
    (w'.cell? ⟨g, 0, none⟩ = some v0 ∧ w'.cell? ⟨g, 1, none⟩ = some v1 ∧ w'.cell? ⟨g, 2, none⟩ = some v2 ∧ w'.cell? ⟨g, 3, none⟩ = some v3 ∧ w'.cell? ⟨g, 4, none⟩ = some v4 ∧ w'.cell? ⟨g, 5, none⟩ = some v5 ∧ w'.cell? ⟨g, 6, none⟩ = some v6 ∧ w'.cell? ⟨g, 7, none⟩ = some v7 ∧ w'.cell? ⟨g, 8, none⟩ = some v8 ∧ w'.cell? ⟨g, 9, none⟩ = some v9 ∧ w'.cell? ⟨g, 10, none⟩ = some v10) ∧
    (w'.cell? ⟨g', 0, none⟩ = some u0 ∧ w'.cell? ⟨g', 1, none⟩ = some u1 ∧ w'.cell? ⟨g', 2, none⟩ = some u2 ∧ w'.cell? ⟨g', 3, none⟩ = some u3 ∧ w'.cell? ⟨g', 4, none⟩ = some u4 ∧ w'.cell? ⟨g', 5, none⟩ = some u5 ∧ w'.cell? ⟨g', 6, none⟩ = some u6 ∧ w'.cell? ⟨g', 7, none⟩ = some u7 ∧ w'.cell? ⟨g', 8, none⟩ = some u8 ∧ w'.cell? ⟨g', 9, none⟩ = some u9 ∧ w'.cell? ⟨g', 10, none⟩ = some u10) := ⟨(h.later hb).c11.1, (h'.later hb).c11.1⟩
end Go.Proofs.YtmfhfebakdkkdaaGreat
