/- The reference's hashes and runs. -/
import Derived.Test.YtmfhfebakdkkdaaSpecE
import Derived.Test.YtmfhfebakdkkdaaSpecH
import Derived.Test.YtmfhfebakdkkdaaRepL
namespace Go.Proofs.Ytmfhfebakdkkdaa
open Go.ChangeShapes Go.WideShapes Go.ChangeAt Go.RowKit
def int64 (n : Int) : Prop := -9223372036854775808 ≤ n ∧ n ≤ 9223372036854775807
theorem l4Step_any (h n : Int) (w : World) (h0 : 0 ≤ h) (h1 : h ≤ 1000002) (hn : int64 n) : Calls Try.prog 144 #[.int .i64 h, .int .i64 n] w fun e w' => e = .returned (.int .i64 (hstep h n)) ∧ w = w' := by
  obtain ⟨n0, n1⟩ := hn
  have e := Int.tmod_add_mul_tdiv n 1000003
  have b1 := Int.tmod_lt_of_pos n (b := 1000003) (by omega)
  have b2 := Int.lt_tmod_of_pos n (b := 1000003) (by omega)
  have hR : Hid ((8191 * h + n.tmod 1000003 % 1000003 + 1) % 1000003 = hstep h n) := Lib.hid (by
    unfold hstep
    have : n.tmod 1000003 % 1000003 = n % 1000003 := by omega
    rw [this])
  clear e
  go_enter Try.func144, Try.ntmps144
  go_wp2
  go_ret
  exact ⟨ret_int (by rw [← hR.out]), rfl⟩
theorem l4Hash_any (h : Int) (A : Option Addr) (n c : Nat) (l : List Int) (w : World) (hs : Sl w 1 encInt A n l) (hn : (n : Nat) ≤ 9223372036854775807) (h0 : 0 ≤ h) (h1 : h ≤ 1000002) (hl : ∀ x ∈ l, int64 x) : Calls Try.prog 130 #[.int .i64 h, .slice A n c] w fun e w' => e = .returned (.int .i64 (hashL h l)) ∧ w = w' := by
  obtain rfl := hs.len
  go_enter Try.func130, Try.ntmps130
  go_wp2
  go_loop [0, 5] (fun a i => ∃ k : Nat, k ≤ l.length ∧ i = .int .i64 k ∧ a = .int .i64 (hashL h (l.take k))) (fun _ i => l.length - (intOf i).toNat)
  case atStart => exact ⟨0, Nat.zero_le _, rfl, rfl⟩
  case round =>
    obtain ⟨k, hk, rfl, rfl⟩ := hrel
    obtain ⟨g0, g1⟩ := hashL_bd (h := h) ⟨h0, h1⟩ (l.take k)
    by_cases hlt : k < l.length
    · obtain ⟨b, off, x, rfl, hbl, hx, hc⟩ := hs.at_ hlt
      have q0 := int_at hc
      have hxx := hl x (List.mem_of_getElem? hx)
      have HT := Lib.hid (hashL_take (h := h) hx)
      clear hx hc hs hl
      generalize hashL h (l.take k) = H at *
      go_wp2_with (go_at_call 144; refine (l4Step_any _ _ _ g0 g1 hxx).mono ?_; rintro e w1 ⟨rfl, rfl⟩)
      go_round
      case rel => exact ⟨k + 1, by omega, by go_num, by rw [HT.out]⟩
      case measure => simp [intOf]; omega
    · have hkn : l.take k = l := List.take_of_length_le (by omega)
      have H := Lib.hid hkn; clear hkn
      go_wp2
      go_ret
      exact ⟨ret_int (by rw [H.out]), rfl⟩
theorem Sl.lit (w : World) (T : TypeId) (cs : Array Value) (l : List Int) (g n : Nat) (hg : w.heap.size = g) (hn : l.length = n) (h : cs.toList = l.flatMap encInt) : Sl (w.alloc (.cells cs T)) 1 encInt (some ⟨g, 0, none⟩) n l := by
  subst hg hn
  refine ⟨rfl, fun _ => ⟨w.heap.size, 0, rfl, by simp, fun k x hk j v hv => ?_⟩⟩
  have h1 := flatMap_at encInt_len l k x j v hk hv
  have h2 := (Blk.new w cs T).2 (k * 1 + j) v (by rw [h]; exact h1)
  rw [Nat.zero_add]
  exact h2
/-- A state whose numbers an int can hold. -/
def stBd (s : St) : Prop := int64 s.t ∧ int64 s.p.x ∧ int64 s.p.y ∧ int64 s.f.x ∧ int64 s.f.y ∧ int64 s.d ∧ int64 s.g
set_option maxRecDepth 100000 in
theorem l13Hash_any (s : St) (w : World) (hb : stBd s) : Calls Try.prog 102 #[.agg #[.int .i64 s.t, .int .i64 s.p.x, .int .i64 s.p.y, .int .i64 s.f.x, .int .i64 s.f.y, .int .i64 s.d, .int .i64 s.g, .bool s.dn, .bool s.ov]] w fun e w' => e = .returned (.int .i64 (hashS s)) ∧ Below w.heap.size w w' := by
  obtain ⟨t, ⟨px, py⟩, ⟨ux, uy⟩, d, g, dn, ov⟩ := s
  obtain ⟨b1, b2, b3, b4, b5, b6, b7⟩ := hb
  simp only at *
  cases dn
  · cases ov
    · have hF : True := trivial
      go_enter Try.func102, Try.ntmps102
      go_wp2_with fail
      refine (l4Hash_any 17 _ 8 8 [t, px, py, ux, uy, d, g, 0] _ (Sl.lit _ _ _ _ _ 8 (by simp) rfl (by simp [encInt])) (by omega) (by omega) (by omega) (by intro x hx; simp only [List.mem_cons, List.not_mem_nil, or_false] at hx; rcases hx with rfl | rfl | rfl | rfl | rfl | rfl | rfl | rfl <;> first | assumption | (unfold int64; omega))).mono ?_
      rintro e w1 ⟨rfl, rfl⟩
      go_wp2
      go_ret
      refine ⟨rfl, ?_⟩; (repeat (first | (with_reducible exact Below.refl _ _) | (with_reducible refine below_alloc ?_ _) | (with_reducible refine below_setCell ?_ ?_ _; (simp <;> omega)) | (with_reducible refine below_drew ?_) | (with_reducible refine below_drewN ?_ _) | (with_reducible refine below_after ?_ (by assumption))))
    · have hF : True := trivial
      go_enter Try.func102, Try.ntmps102
      go_wp2_with fail
      refine (l4Hash_any 17 _ 8 8 [t, px, py, ux, uy, d, g, 2] _ (Sl.lit _ _ _ _ _ 8 (by simp) rfl (by simp [encInt])) (by omega) (by omega) (by omega) (by intro x hx; simp only [List.mem_cons, List.not_mem_nil, or_false] at hx; rcases hx with rfl | rfl | rfl | rfl | rfl | rfl | rfl | rfl <;> first | assumption | (unfold int64; omega))).mono ?_
      rintro e w1 ⟨rfl, rfl⟩
      go_wp2
      go_ret
      refine ⟨rfl, ?_⟩; (repeat (first | (with_reducible exact Below.refl _ _) | (with_reducible refine below_alloc ?_ _) | (with_reducible refine below_setCell ?_ ?_ _; (simp <;> omega)) | (with_reducible refine below_drew ?_) | (with_reducible refine below_drewN ?_ _) | (with_reducible refine below_after ?_ (by assumption))))
  · cases ov
    · have hF : True := trivial
      go_enter Try.func102, Try.ntmps102
      go_wp2_with fail
      refine (l4Hash_any 17 _ 8 8 [t, px, py, ux, uy, d, g, 1] _ (Sl.lit _ _ _ _ _ 8 (by simp) rfl (by simp [encInt])) (by omega) (by omega) (by omega) (by intro x hx; simp only [List.mem_cons, List.not_mem_nil, or_false] at hx; rcases hx with rfl | rfl | rfl | rfl | rfl | rfl | rfl | rfl <;> first | assumption | (unfold int64; omega))).mono ?_
      rintro e w1 ⟨rfl, rfl⟩
      go_wp2
      go_ret
      refine ⟨rfl, ?_⟩; (repeat (first | (with_reducible exact Below.refl _ _) | (with_reducible refine below_alloc ?_ _) | (with_reducible refine below_setCell ?_ ?_ _; (simp <;> omega)) | (with_reducible refine below_drew ?_) | (with_reducible refine below_drewN ?_ _) | (with_reducible refine below_after ?_ (by assumption))))
    · have hF : True := trivial
      go_enter Try.func102, Try.ntmps102
      go_wp2_with fail
      refine (l4Hash_any 17 _ 8 8 [t, px, py, ux, uy, d, g, 3] _ (Sl.lit _ _ _ _ _ 8 (by simp) rfl (by simp [encInt])) (by omega) (by omega) (by omega) (by intro x hx; simp only [List.mem_cons, List.not_mem_nil, or_false] at hx; rcases hx with rfl | rfl | rfl | rfl | rfl | rfl | rfl | rfl <;> first | assumption | (unfold int64; omega))).mono ?_
      rintro e w1 ⟨rfl, rfl⟩
      go_wp2
      go_ret
      refine ⟨rfl, ?_⟩; (repeat (first | (with_reducible exact Below.refl _ _) | (with_reducible refine below_alloc ?_ _) | (with_reducible refine below_setCell ?_ ?_ _; (simp <;> omega)) | (with_reducible refine below_drew ?_) | (with_reducible refine below_drewN ?_ _) | (with_reducible refine below_after ?_ (by assumption))))
end Go.Proofs.Ytmfhfebakdkkdaa
