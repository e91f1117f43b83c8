/- The reference's vectors, boxes and levels, each by its contract. -/
import Derived.Test.YtmfhfebakdkkdaaEngP
import Derived.Test.YtmfhfebakdkkdaaWk
import Derived.Deep.DeepMust
namespace Go.Proofs.Ytmfhfebakdkkdaa
open Go.ChangeShapes Go.WideShapes Go.ChangeAt Go.RowKit
theorem specVecOk_any (v : V2) (w : World) : Calls Try.prog 125 #[.agg #[.int .i64 v.x, .int .i64 v.y]] w fun e w' => e = .returned (.bool (vOk v)) ∧ Below w.heap.size w w' := by
  go_enter Try.func125, Try.ntmps125
  go_wp2_with (go_at_call 95; refine (l6In_r _ _ _ _).mono ?_; rintro e w1 ⟨rfl, rfl⟩)
  all_goals (go_ret; exact ⟨ret_bool (by simp_all [vOk]), below_alloc (Below.refl _ _) _⟩)
theorem specVecOk_xy (x y : Int) (w : World) : Calls Try.prog 125 #[.agg #[.int .i64 x, .int .i64 y]] w fun e w' => e = .returned (.bool (vOk ⟨x, y⟩)) ∧ Below w.heap.size w w' := specVecOk_any ⟨x, y⟩ w
set_option maxRecDepth 100000 in
theorem specBoxValid_any (b : Bx) (w : World) : Calls Try.prog 127 #[.agg #[.int .i64 b.lo.x, .int .i64 b.lo.y, .int .i64 b.hi.x, .int .i64 b.hi.y]] w fun e w' => e = .returned (.bool (bxOk b)) ∧ Below w.heap.size w w' := by
  go_enter Try.func127, Try.ntmps127
  go_wp2_with (go_at_call 125; refine (specVecOk_xy _ _ _).mono ?_; rintro e w1 ⟨rfl, hb1⟩; obtain ⟨hc1, hf1⟩ := bcell hb1; have hy1 : w.heap.size < w1.heap.size := (by have := hb1.size; first | omega | (simp at this; omega)))
  all_goals (go_ret; refine ⟨ret_bool (by first | (simp_all [bxOk]; done) | (simp_all [bxOk]; omega)), ?_⟩; (repeat (first | (with_reducible exact Below.refl _ _) | (with_reducible refine below_alloc ?_ _) | (with_reducible refine below_setCell ?_ ?_ _; (simp <;> omega)) | (with_reducible refine below_drew ?_) | (with_reducible refine below_drewN ?_ _) | (with_reducible refine below_after ?_ (by assumption)))))
theorem l3Nearest_any (b : Bx) (v : V2) (w : World) : Calls Try.prog 150 #[.agg #[.int .i64 b.lo.x, .int .i64 b.lo.y, .int .i64 b.hi.x, .int .i64 b.hi.y], .agg #[.int .i64 v.x, .int .i64 v.y]] w fun e w' => e = .returned (.agg #[.int .i64 (nearV b v).x, .int .i64 (nearV b v).y]) ∧ Below w.heap.size w w' := by
  go_enter Try.func150, Try.ntmps150
  go_wp2
  all_goals
    refine bodyPost_ret (v := .agg #[.int .i64 (nearV b v).x, .int .i64 (nearV b v).y]) ?_ rfl ⟨rfl, ?_⟩
    · simp [results, Try.results150, go_sem, nearV]; omega
    · (repeat (first | (with_reducible exact Below.refl _ _) | (with_reducible refine below_alloc ?_ _) | (with_reducible refine below_setCell ?_ ?_ _; (simp <;> omega)) | (with_reducible refine below_drew ?_) | (with_reducible refine below_drewN ?_ _) | (with_reducible refine below_after ?_ (by assumption))))
theorem l3Touches_any (b : Bx) (v : V2) (r : Int) (w : World) (hb : bdBx b) (hv : bdV v) (hr : 0 ≤ r ∧ r ≤ 1000000) : Calls Try.prog 134 #[.agg #[.int .i64 b.lo.x, .int .i64 b.lo.y, .int .i64 b.hi.x, .int .i64 b.hi.y], .agg #[.int .i64 v.x, .int .i64 v.y], .int .i64 r] w fun e w' => e = .returned (.bool (touchB b v r)) ∧ Below w.heap.size w w' := by
  have hnb := near_bd hb hv
  have hx := sq_bd (a := v.x - (nearV b v).x) (by unfold bdV at *; omega)
  have hy := sq_bd (a := v.y - (nearV b v).y) (by unfold bdV at *; omega)
  have hrr := sq_bd (a := r) (by omega)
  unfold bdV at hv hnb
  obtain ⟨v1, v2, v3, v4⟩ := hv
  obtain ⟨n1, n2, n3, n4⟩ := hnb
  obtain ⟨x1, x2⟩ := hx
  obtain ⟨y1, y2⟩ := hy
  obtain ⟨r1, r2⟩ := hrr
  obtain ⟨r3, r4⟩ := hr
  go_enter Try.func134, Try.ntmps134
  go_wp2_with fail
  refine (l3Nearest_any b v _).mono ?_
  rintro e w1 ⟨rfl, hb1⟩
  obtain ⟨hc1, hf1⟩ := bcell hb1; have hy1 : w.heap.size < w1.heap.size := (by have := hb1.size; first | omega | (simp at this; omega)); have hz1 : w.heap.size + 1 < w1.heap.size := (by have := hb1.size; first | omega | (simp at this; omega))
  go_wp2
  go_ret
  refine ⟨ret_bool (by simp [touchB]), ?_⟩; (repeat (first | (with_reducible exact Below.refl _ _) | (with_reducible refine below_alloc ?_ _) | (with_reducible refine below_setCell ?_ ?_ _; (simp <;> omega)) | (with_reducible refine below_drew ?_) | (with_reducible refine below_drewN ?_ _) | (with_reducible refine below_after ?_ (by assumption))))
theorem specBoxValid_xy (x y x' y' : Int) (w : World) : Calls Try.prog 127 #[.agg #[.int .i64 x, .int .i64 y, .int .i64 x', .int .i64 y']] w fun e w' => e = .returned (.bool (bxOk ⟨⟨x, y⟩, ⟨x', y'⟩⟩)) ∧ Below w.heap.size w w' := specBoxValid_any ⟨⟨x, y⟩, ⟨x', y'⟩⟩ w
theorem l3Has_any (b : Bx) (v : V2) (w : World) : Calls Try.prog 137 #[.agg #[.int .i64 b.lo.x, .int .i64 b.lo.y, .int .i64 b.hi.x, .int .i64 b.hi.y], .agg #[.int .i64 v.x, .int .i64 v.y]] w fun e w' => e = .returned (.bool (hasV b v)) ∧ Below w.heap.size w w' := by
  go_enter Try.func137, Try.ntmps137
  go_wp2_with (go_at_call 95; refine (l6In_r _ _ _ _).mono ?_; rintro e w1 ⟨rfl, rfl⟩)
  all_goals (go_ret; refine ⟨ret_bool (by simp_all [hasV]), ?_⟩; (repeat (first | (with_reducible exact Below.refl _ _) | (with_reducible refine below_alloc ?_ _) | (with_reducible refine below_setCell ?_ ?_ _; (simp <;> omega)) | (with_reducible refine below_drew ?_) | (with_reducible refine below_drewN ?_ _) | (with_reducible refine below_after ?_ (by assumption)))))
theorem l3Has_xy (x y x' y' a b : Int) (w : World) : Calls Try.prog 137 #[.agg #[.int .i64 x, .int .i64 y, .int .i64 x', .int .i64 y'], .agg #[.int .i64 a, .int .i64 b]] w fun e w' => e = .returned (.bool (hasV ⟨⟨x, y⟩, ⟨x', y'⟩⟩ ⟨a, b⟩)) ∧ Below w.heap.size w w' := l3Has_any ⟨⟨x, y⟩, ⟨x', y'⟩⟩ ⟨a, b⟩ w
theorem l11Boxes_any (A : Option Addr) (n c : Nat) (l : List Bx) (w : World) (h : Sl w 4 encBx A n l) (hn : (n : Nat) ≤ 9223372036854775807) : Calls Try.prog 126 #[.slice A n c] w fun e w' => e = .returned (.bool (boxesB l)) ∧ Below w.heap.size w w' := by
  obtain rfl := h.len
  go_enter Try.func126, Try.ntmps126
  go_wp2
  go_loopw [3] (fun i wr => ∃ k : Nat, k ≤ l.length ∧ i = .int .i64 k ∧ (l.take k).all bxOk = true ∧ Below w.heap.size w wr) (fun i _ => l.length - (intOf i).toNat)
  case atStart => exact ⟨0, Nat.zero_le _, rfl, rfl, Below.refl _ _⟩
  case round =>
    obtain ⟨k, hk, rfl, ht, hb⟩ := hrel
    have Ht := Lib.hid ht; clear ht
    by_cases hlt : k < l.length
    · obtain ⟨b, off, x, rfl, hbl, hx, hc⟩ := (h.below hb).at_ hlt
      have q0 : wr.cell? ⟨b, off + k * 4, none⟩ = some (.int .i64 x.lo.x) := hc 0 _ rfl
      have q1 : wr.cell? ⟨b, off + k * 4 + 1, none⟩ = some (.int .i64 x.lo.y) := hc 1 _ rfl
      have q2 : wr.cell? ⟨b, off + k * 4 + 2, none⟩ = some (.int .i64 x.hi.x) := hc 2 _ rfl
      have q3 : wr.cell? ⟨b, off + k * 4 + 3, none⟩ = some (.int .i64 x.hi.y) := hc 3 _ rfl
      have Hx := Lib.hid hx; clear hx
      clear h hc
      go_wp2_with (go_at_call 127; refine (specBoxValid_any x _).mono ?_; rintro e w' ⟨rfl, hb1⟩)
      · have ht : (!bxOk x) = true := by assumption
        go_ret
        exact ⟨ret_bool (by rw [boxesB, all_not Hx.out (by simpa using ht)]), hb.trans (hb1.mono hb.size)⟩
      · have ht : (!bxOk x) = false := by assumption
        go_roundw
        case rel => exact ⟨k + 1, by omega, by go_num, all_take Hx.out Ht.out (by simpa using ht), hb.trans (hb1.mono hb.size)⟩
        case measure => simp [intOf]; omega
    · have hkn : l.take k = l := List.take_of_length_le (by omega)
      have H := Lib.hid hkn; clear hkn
      go_wp2
      go_ret
      exact ⟨ret_bool (by have := Ht.out; rw [H.out] at this; exact this.symm), hb⟩
set_option maxRecDepth 100000 in
theorem l11Free_any (l : Lev) (v : V2) (A A' : Option Addr) (c c' : Nat) (w : World) (h : Sl w 4 encBx A l.walls.length l.walls) (hn : (l.walls.length : Nat) ≤ 9223372036854775807) (hw : ∀ b ∈ l.walls, bdBx b) (hv : bdV v) :
    Calls Try.prog 111 #[.agg #[.int .i64 l.id, .int .i64 l.ticks, .int .i64 l.start.x, .int .i64 l.start.y, .slice A l.walls.length c, .slice A' l.gates.length c', .int .i64 l.fin.lo.x, .int .i64 l.fin.lo.y, .int .i64 l.fin.hi.x, .int .i64 l.fin.hi.y, .int .i64 l.bans], .agg #[.int .i64 v.x, .int .i64 v.y]] w fun e w' => e = .returned (.bool (freeB l v)) ∧ Below w.heap.size w w' := by
  have hB0 := (Blk.new w #[.int .i64 l.id, .int .i64 l.ticks, .int .i64 l.start.x, .int .i64 l.start.y, .slice A l.walls.length c, .slice A' l.gates.length c', .int .i64 l.fin.lo.x, .int .i64 l.fin.lo.y, .int .i64 l.fin.hi.x, .int .i64 l.fin.hi.y, .int .i64 l.bans] 29).alloc (.cells #[.int .i64 v.x, .int .i64 v.y] 24)
  have hD0 := Blk.new (w.alloc (.cells #[.int .i64 l.id, .int .i64 l.ticks, .int .i64 l.start.x, .int .i64 l.start.y, .slice A l.walls.length c, .slice A' l.gates.length c', .int .i64 l.fin.lo.x, .int .i64 l.fin.lo.y, .int .i64 l.fin.hi.x, .int .i64 l.fin.hi.y, .int .i64 l.bans] 29)) #[.int .i64 v.x, .int .i64 v.y] 24
  have hd0 := below_alloc (below_alloc (Below.refl w.heap.size w) (.cells #[.int .i64 l.id, .int .i64 l.ticks, .int .i64 l.start.x, .int .i64 l.start.y, .slice A l.walls.length c, .slice A' l.gates.length c', .int .i64 l.fin.lo.x, .int .i64 l.fin.lo.y, .int .i64 l.fin.hi.x, .int .i64 l.fin.hi.y, .int .i64 l.bans] 29)) (.cells #[.int .i64 v.x, .int .i64 v.y] 24)
  go_enter Try.func111, Try.ntmps111
  go_wp2
  go_loopw [5] (fun i wr => ∃ k : Nat, k ≤ l.walls.length ∧ i = .int .i64 k ∧ (l.walls.take k).all (fun b => !touchB b v 500) = true ∧ Blk wr w.heap.size [.int .i64 l.id, .int .i64 l.ticks, .int .i64 l.start.x, .int .i64 l.start.y, .slice A l.walls.length c, .slice A' l.gates.length c', .int .i64 l.fin.lo.x, .int .i64 l.fin.lo.y, .int .i64 l.fin.hi.x, .int .i64 l.fin.hi.y, .int .i64 l.bans] ∧ Blk wr (w.heap.size + 1) [.int .i64 v.x, .int .i64 v.y] ∧ Below w.heap.size w wr) (fun i _ => l.walls.length - (intOf i).toNat)
  case atStart => exact ⟨0, Nat.zero_le _, rfl, rfl, hB0, by simpa using hD0, hd0⟩
  case round =>
    obtain ⟨k, hk, rfl, ht, hB, hD, hb⟩ := hrel
    have Ht := Lib.hid ht; clear ht hB0 hD0 hd0
    have hB' := hB
    have hD' := hD
    obtain ⟨x0, x1, x2, x3, x4, x5, x6, x7, x8, x9, x10⟩ := hB.c11
    obtain ⟨y0, y1⟩ := hD.c2
    by_cases hlt : k < l.walls.length
    · obtain ⟨b, off, x, rfl, hbl, hx, hc⟩ := (h.below hb).at_ hlt
      have q0 : wr.cell? ⟨b, off + k * 4, none⟩ = some (.int .i64 x.lo.x) := hc 0 _ rfl
      have q1 : wr.cell? ⟨b, off + k * 4 + 1, none⟩ = some (.int .i64 x.lo.y) := hc 1 _ rfl
      have q2 : wr.cell? ⟨b, off + k * 4 + 2, none⟩ = some (.int .i64 x.hi.x) := hc 2 _ rfl
      have q3 : wr.cell? ⟨b, off + k * 4 + 3, none⟩ = some (.int .i64 x.hi.y) := hc 3 _ rfl
      have hxb := hw x (List.mem_of_getElem? hx)
      have Hx := Lib.hid hx; clear hx
      clear h hc hw
      go_wp2
      go_still_tail 6, (by kernel_rfl)
      change wpList _ _ _ _ _ wr.drew
      have hb2 : Below wr.heap.size wr wr.drew := (Below.refl _ _).drew
      generalize wr.drew = w2 at hb2
      go_wp2_with (go_at_call 134; refine (l3Touches_any x v 500 _ hxb hv (by omega)).mono ?_; rintro e w' ⟨rfl, hb1⟩)
      · have ht : touchB x v 500 = true := by assumption
        go_ret
        exact ⟨ret_bool (by rw [freeB, all_not Hx.out (by simpa using ht)]), below_after (below_after hb hb2) hb1⟩
      · have ht : touchB x v 500 = false := by assumption
        go_roundw
        case rel => exact ⟨k + 1, by omega, by go_num, all_take Hx.out Ht.out (by simpa using ht), (hB'.later hb2).later hb1, (hD'.later hb2).later hb1, below_after (below_after hb hb2) hb1⟩
        case measure => simp [intOf]; omega
    · have hkn : l.walls.take k = l.walls := List.take_of_length_le (by omega)
      have H := Lib.hid hkn; clear hkn
      clear h hw
      go_wp2
      go_ret
      exact ⟨ret_bool (by have := Ht.out; rw [H.out] at this; exact this.symm), hb⟩
theorem l11Free_xy (l : Lev) (x y : Int) (A A' : Option Addr) (c c' : Nat) (w : World) (h : Sl w 4 encBx A l.walls.length l.walls) (hn : (l.walls.length : Nat) ≤ 9223372036854775807) (hw : ∀ b ∈ l.walls, bdBx b) (hv : bdV ⟨x, y⟩) :
    Calls Try.prog 111 #[.agg #[.int .i64 l.id, .int .i64 l.ticks, .int .i64 l.start.x, .int .i64 l.start.y, .slice A l.walls.length c, .slice A' l.gates.length c', .int .i64 l.fin.lo.x, .int .i64 l.fin.lo.y, .int .i64 l.fin.hi.x, .int .i64 l.fin.hi.y, .int .i64 l.bans], .agg #[.int .i64 x, .int .i64 y]] w fun e w' => e = .returned (.bool (freeB l ⟨x, y⟩)) ∧ Below w.heap.size w w' := l11Free_any l ⟨x, y⟩ A A' c c' w h hn hw hv
end Go.Proofs.Ytmfhfebakdkkdaa
