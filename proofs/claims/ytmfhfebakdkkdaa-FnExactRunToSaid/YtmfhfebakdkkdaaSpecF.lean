/- The reference's inputs: what is forbidden, what follows, what is legal; valid levels. -/
import Derived.Test.YtmfhfebakdkkdaaSpecA
namespace Go.Proofs.Ytmfhfebakdkkdaa
open Go.ChangeShapes Go.WideShapes Go.ChangeAt Go.RowKit
theorem l11Bans_2 (l : Lev) (A A' : Option Addr) (c c' : Nat) (w : World) (h0 : 0 ≤ l.bans) (h1 : l.bans ≤ 1000) : Calls Try.prog 142 #[.agg #[.int .i64 l.id, .int .i64 l.ticks, .int .i64 l.start.x, .int .i64 l.start.y, .slice A l.walls.length c, .slice A' l.gates.length c', .int .i64 l.fin.lo.x, .int .i64 l.fin.lo.y, .int .i64 l.fin.hi.x, .int .i64 l.fin.hi.y, .int .i64 l.bans], .int .i64 2] w fun e w' => e = .returned (.bool (banB l 2)) ∧ Below w.heap.size w w' := by
  go_enter Try.func142, Try.ntmps142
  go_wp2
  go_ret
  exact ⟨ret_bool (by simp [banB]), below_alloc (Below.refl _ _) _⟩
theorem l11Bans_1 (l : Lev) (A A' : Option Addr) (c c' : Nat) (w : World) (h0 : 0 ≤ l.bans) (h1 : l.bans ≤ 1000) : Calls Try.prog 142 #[.agg #[.int .i64 l.id, .int .i64 l.ticks, .int .i64 l.start.x, .int .i64 l.start.y, .slice A l.walls.length c, .slice A' l.gates.length c', .int .i64 l.fin.lo.x, .int .i64 l.fin.lo.y, .int .i64 l.fin.hi.x, .int .i64 l.fin.hi.y, .int .i64 l.bans], .int .i64 1] w fun e w' => e = .returned (.bool (banB l 1)) ∧ Below w.heap.size w w' := by
  go_enter Try.func142, Try.ntmps142
  go_wp2
  go_ret
  exact ⟨ret_bool (by simp [banB]), below_alloc (Below.refl _ _) _⟩
theorem inpOk_s {x : Inp} (h : inpOk x = true) : -1 ≤ x.s ∧ x.s ≤ 1 := by
  have := inpOk_bd h; omega
set_option maxRecDepth 100000 in
set_option maxHeartbeats 1000000 in
theorem l12Follows_any (l : Lev) (b x : Inp) (A A' : Option Addr) (c c' : Nat) (w : World) (h0 : 0 ≤ l.bans) (h1 : l.bans ≤ 1000) (hb : -1 ≤ b.s ∧ b.s ≤ 1) :
    Calls Try.prog 128 #[.agg #[.int .i64 l.id, .int .i64 l.ticks, .int .i64 l.start.x, .int .i64 l.start.y, .slice A l.walls.length c, .slice A' l.gates.length c', .int .i64 l.fin.lo.x, .int .i64 l.fin.lo.y, .int .i64 l.fin.hi.x, .int .i64 l.fin.hi.y, .int .i64 l.bans], .agg #[.int .i64 b.s, .int .i64 b.p, .bool b.z], .agg #[.int .i64 x.s, .int .i64 x.p, .bool x.z]] w fun e w' => e = .returned (.bool (folB l b.s x)) ∧ Below w.heap.size w w' := by
  obtain ⟨xs, xp, xz⟩ := x
  cases hok : inpOk ⟨xs, xp, xz⟩
  · have hR : Hid (folB l b.s ⟨xs, xp, xz⟩ = false) := Lib.hid (by unfold folB; rw [hok]; rfl)
    go_enter Try.func128, Try.ntmps128
    go_wp2_with (go_at_call 72; refine (specInputValid_any ⟨xs, xp, xz⟩ _).mono ?_; rintro e w1 ⟨rfl, hb1⟩; obtain ⟨hc1, hf1⟩ := bcell hb1; have hy1 : w.heap.size < w1.heap.size := (by have := hb1.size; first | omega | (simp at this; omega)); have hz1 : w.heap.size + 1 < w1.heap.size := (by have := hb1.size; first | omega | (simp at this; omega)); have hx1 : w.heap.size + 1 + 1 < w1.heap.size := (by have := hb1.size; first | omega | (simp at this; omega)))
    go_ret
    refine ⟨ret_bool hR.out.symm, ?_⟩; (repeat (first | (with_reducible exact Below.refl _ _) | (with_reducible refine below_alloc ?_ _) | (with_reducible refine below_setCell ?_ ?_ _; (simp <;> omega)) | (with_reducible refine below_drew ?_) | (with_reducible refine below_drewN ?_ _) | (with_reducible refine below_after ?_ (by assumption))))
  · obtain ⟨k1, k2⟩ := inpOk_s hok
    obtain ⟨b1, b2⟩ := hb
    cases hp : (xp == 2)
    all_goals cases xz
    all_goals cases hB1 : banB l 1
    all_goals cases hB2 : banB l 2
    all_goals
      have HP := Lib.hid hp
      have HB1 := Lib.hid hB1
      have HB2 := Lib.hid hB2
      have HO := Lib.hid hok
      go_enter Try.func128, Try.ntmps128
      go_wp2_with (first
        | (go_at_call 72; refine (specInputValid_any ⟨xs, xp, _⟩ _).mono ?_; rintro e w1 ⟨rfl, hb1⟩; obtain ⟨hc1, hf1⟩ := bcell hb1; have hy1 : w.heap.size < w1.heap.size := (by have := hb1.size; first | omega | (simp at this; omega)); have hz1 : w.heap.size + 1 < w1.heap.size := (by have := hb1.size; first | omega | (simp at this; omega)); have hx1 : w.heap.size + 1 + 1 < w1.heap.size := (by have := hb1.size; first | omega | (simp at this; omega)))
        | (go_at_call 142; (with_reducible refine (l11Bans_2 l _ _ _ _ _ h0 h1).mono ?_); rintro e w2 ⟨rfl, hb2⟩; obtain ⟨hc2, hf2⟩ := bcell hb2; have hy2 : w.heap.size < w2.heap.size := (by have := hb2.size; first | omega | (simp at this; omega)); have hz2 : w.heap.size + 1 < w2.heap.size := (by have := hb2.size; first | omega | (simp at this; omega)); have hx2 : w.heap.size + 1 + 1 < w2.heap.size := (by have := hb2.size; first | omega | (simp at this; omega)))
        | (go_at_call 142; (with_reducible refine (l11Bans_1 l _ _ _ _ _ h0 h1).mono ?_); rintro e w3 ⟨rfl, hb3⟩; obtain ⟨hc3, hf3⟩ := bcell hb3; have hy3 : w.heap.size < w3.heap.size := (by have := hb3.size; first | omega | (simp at this; omega)); have hz3 : w.heap.size + 1 < w3.heap.size := (by have := hb3.size; first | omega | (simp at this; omega)); have hx3 : w.heap.size + 1 + 1 < w3.heap.size := (by have := hb3.size; first | omega | (simp at this; omega)))
        | (go_at_call 95; refine (l6In_r _ _ _ _).mono ?_; rintro e w4 ⟨rfl, rfl⟩))
      go_ret
      refine ⟨ret_bool (by unfold folB; simp only [HP.out, HB1.out, HB2.out, HO.out]; rfl), ?_⟩; (repeat (first | (with_reducible exact Below.refl _ _) | (with_reducible refine below_alloc ?_ _) | (with_reducible refine below_setCell ?_ ?_ _; (simp <;> omega)) | (with_reducible refine below_drew ?_) | (with_reducible refine below_drewN ?_ _) | (with_reducible refine below_after ?_ (by assumption))))
theorem pausesOf_succ {l : List Inp} {k : Nat} {x : Inp} (hx : l[k]? = some x) : pausesOf (l.take (k + 1)) = pausesOf (l.take k) + (if x.z then 1 else 0) := by
  unfold pausesOf
  rw [List.take_add_one, hx, List.filter_append, List.length_append]
  cases hz : x.z <;> simp [hz]
theorem pausesOf_bd (l : List Inp) (k : Nat) : 0 ≤ pausesOf (l.take k) ∧ pausesOf (l.take k) ≤ k := by
  unfold pausesOf
  have h1 := List.length_filter_le (fun x : Inp => x.z) (l.take k)
  have h2 := List.length_take_le k l
  omega
theorem steerOf_succ {l : List Inp} {k : Nat} {x : Inp} (hx : l[k]? = some x) : steerOf (l.take (k + 1)) = x.s := by
  unfold steerOf
  rw [List.take_add_one, hx]
  simp
theorem badAt_eq {l : Lev} {ins : List Inp} {k : Nat} {x : Inp} (hx : ins[k]? = some x) : badAt l ins k = (decide (l.ticks ≤ k) || (decide (3 < pausesOf (ins.take (k + 1))) || !folB l (steerOf (ins.take k)) x)) := by
  unfold badAt; rw [hx]
theorem folB_inp {l : Lev} {s : Int} {x : Inp} (h : folB l s x = true) : inpOk x = true := by
  unfold folB at h
  rw [Bool.and_eq_true] at h
  exact h.1
/-- Ahead of a bad input each one is valid. -/
theorem steer_bd {l : Lev} {ins : List Inp} {k : Nat} (h : ∀ j, j < k → badAt l ins j = false) (hk : k ≤ ins.length) : -1 ≤ steerOf (ins.take k) ∧ steerOf (ins.take k) ≤ 1 := by
  cases k with
  | zero => simp [steerOf]
  | succ k =>
    have hx : ins[k]? = some (ins[k]'(by omega)) := List.getElem?_eq_getElem _
    rw [steerOf_succ hx]
    have hb := h k (by omega)
    rw [badAt_eq hx] at hb
    simp only [Bool.or_eq_false_iff, Bool.not_eq_false'] at hb
    exact inpOk_s (folB_inp hb.2.2)
end Go.Proofs.Ytmfhfebakdkkdaa
