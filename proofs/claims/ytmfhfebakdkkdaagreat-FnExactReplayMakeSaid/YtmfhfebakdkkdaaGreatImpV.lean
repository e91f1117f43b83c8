/- Lists that are hashed and tags of the program. (Round B, seat Z) -/
import Derived.Test.YtmfhfebakdkkdaaGreatZImpB
import Derived.Test.YtmfhfebakdkkdaaGreatZRepl
import Derived.Test.YtmfhfebakdkkdaaGreatZRun
namespace Go.Proofs.YtmfhfebakdkkdaaGreat
open Go.ChangeShapes Go.WideShapes Go.ChangeAt Go.RowKit
theorem fixedOk_any (n : Int) (w : World) : Calls Tryz.prog 113 #[.int .i64 n] w fun e w' => e = .returned (.bool (fixB n)) ∧ w = w' := by
  by_cases h : (-2000000000 : Int) ≤ n
  · go_enter Tryz.func113, Tryz.ntmps113
    go_wp2
    go_ret
    exact ⟨ret_bool (by simp [fixB, inR, h]), rfl⟩
  · go_enter Tryz.func113, Tryz.ntmps113
    go_wp2
    go_ret
    exact ⟨ret_bool (by simp [fixB, inR]; omega), rfl⟩
set_option maxRecDepth 100000 in
theorem areFixed_any (A : Option Addr) (n c : Nat) (l : List Int) (w : World) (hs : Sl w 1 encInt A n l) (hn : (n : Nat) ≤ 9223372036854775807) : Calls Tryz.prog 91 #[.slice A n c] w fun e w' => e = .returned (.bool (l.all fixB)) ∧ w = w' := by
  obtain rfl := hs.len
  go_enter Tryz.func91, Tryz.ntmps91
  go_wp2
  go_loopw [7] (fun i wr => ∃ k : Nat, k ≤ l.length ∧ i = .int .i64 k ∧ (l.take k).all fixB = true ∧ w = wr) (fun i _ => l.length - (intOf i).toNat)
  case atStart => exact ⟨0, Nat.zero_le _, rfl, rfl, rfl⟩
  case round =>
    obtain ⟨k, hk, rfl, ht, rfl⟩ := hrel
    have Ht := Lib.hid ht; clear ht
    by_cases hlt : k < l.length
    · obtain ⟨b, off, x, rfl, hbl, hx, hc⟩ := hs.at_ hlt
      have q0 : w.cell? ⟨b, off + k, none⟩ = some (.int .i64 x) := by have := hc 0 _ rfl; simpa using this
      have Hx := Lib.hid hx; clear hx
      clear hs hc
      cases hf : fixB x
      · have HF := Lib.hid hf
        go_wp2_with (go_at_call 113; refine (fixedOk_any _ _).mono ?_; rw [HF.out]; rintro e w' ⟨rfl, rfl⟩)
        go_ret
        exact ⟨ret_bool (all_not Hx.out HF.out).symm, rfl⟩
      · have HF := Lib.hid hf
        go_wp2_with (go_at_call 113; refine (fixedOk_any _ _).mono ?_; rw [HF.out]; rintro e w' ⟨rfl, rfl⟩)
        go_roundw
        case rel => exact ⟨k + 1, by omega, by go_num, all_take Hx.out Ht.out HF.out, by trivial⟩
        case measure => simp [intOf]; omega
    · have hkn : l.take k = l := List.take_of_length_le (by omega)
      have H := Lib.hid hkn; clear hkn
      go_wp2
      go_ret
      exact ⟨ret_bool (by have := Ht.out; rw [H.out] at this; rw [this]), rfl⟩
theorem isList_any (A : Option Addr) (n c : Nat) (l : List Int) (w : World) (hs : Sl w 1 encInt A n l) (hn : (n : Nat) ≤ 9223372036854775807) (h2 : n ≤ 200) : Calls Tryz.prog 50 #[.slice A n c] w fun e w' => e = .returned (.bool (listB l)) ∧ w = w' := by
  have hln := hs.len
  have hle : ((n : Nat) : Int) ≤ 200 := by omega
  go_enter Tryz.func50, Tryz.ntmps50
  go_wp2_with (go_at_call 91; refine (areFixed_any _ _ _ l _ hs hn).mono ?_; rintro e w' ⟨rfl, rfl⟩)
  go_ret
  exact ⟨ret_bool (by unfold listB; rw [hln]; simp [h2]), rfl⟩
theorem Own.alt {α : Type} {w : World} {B : Nat} {T : TypeId} {sz n c : Nat} {enc : α → List Value} {A : Option Addr} {l : List α} (h : Own w B T sz enc (.slice A n c) l) : ∀ a, A = some a → a.block < w.heap.size := by
  intro a e
  obtain ⟨A0, c0, e1, _, e2⟩ := h.form
  injection e1 with ea eb ec
  subst ea
  exact (e2 a e).2.1
theorem sl1 (w : World) (T : TypeId) (a : Int) : Sl (w.alloc (.cells #[.int .i64 a] T)) 1 encInt (some ⟨w.heap.size, 0, none⟩) 1 [a] :=
  Sl.lit _ _ _ _ _ 1 rfl rfl (by simp [encInt])
theorem tagL_hash (key : Int) (l : List Int) : tagL key l = hashL (hashL (hashL 17 [key]) l) [key] := rfl
theorem listB_ok {l : List Int} (h1 : ∀ x ∈ l, 0 ≤ x ∧ x ≤ 1000002) (h2 : l.length ≤ 200) : listB l = true := by
  unfold listB
  rw [Bool.and_eq_true, List.all_eq_true, decide_eq_true_eq]
  exact ⟨fun x hx => inR_iff.2 (by have := h1 x hx; omega), h2⟩
set_option maxRecDepth 100000 in
set_option maxHeartbeats 1000000 in
theorem implTagOf_any (key : Int) (A : Option Addr) (n c : Nat) (l : List Int) (w : World) (hs : Sl w 1 encInt A n l) (hn : (n : Nat) ≤ 9223372036854775807) (h2 : n ≤ 200) (hA : ∀ a, A = some a → a.block < w.heap.size) (hk : inR 1 9999 key = true) (hl : ∀ x ∈ l, 0 ≤ x ∧ x ≤ 1000002) :
    Calls Tryz.prog 14 #[.int .i64 key, .slice A n c] w fun e w' => e = .returned (.int .i64 (tagL key l)) ∧ Below w.heap.size w w' := by
  obtain ⟨k0, k1⟩ := inR_iff.1 hk
  have hkey : ∀ x ∈ [key], int64 x := by intro x hx; simp only [List.mem_cons, List.not_mem_nil, or_false] at hx; subst hx; unfold int64; omega
  have hl64 : ∀ x ∈ l, int64 x := fun x hx => by have := hl x hx; unfold int64; omega
  have hLB := listB_ok hl (by rw [hs.len]; exact h2)
  have HT := Lib.hid (tagL_hash key l)
  have p1 := hashL_bd (h := 17) (by omega) [key]
  have p2 := hashL_bd p1 l
  clear k0 k1 hl
  go_enter Tryz.func14, Tryz.ntmps14
  go_wp2_with fail
  refine (inRange_r _ _ _ _).mono ?_
  rw [hk]
  rintro e w1 ⟨rfl, rfl⟩
  go_wp2_with fail
  refine (isList_any _ _ _ l _ hs hn h2).mono ?_
  rw [hLB]
  rintro e w2 ⟨rfl, rfl⟩
  go_wp2_with fail
  refine (implHasher_any _).mono ?_
  rintro e w3 ⟨b, rfl, hb0, hB3, d3, _⟩
  have zB3 := hB3.lt
  go_wp2_with fail
  refine (hasher1_any b 17 _ 1 1 [key] _ (sl1 w3 _ key) (by omega) (by omega) (by omega) hkey (hB3.alloc _) (by intro a e; injection e with e; subst e; dsimp only; omega)).mono ?_
  generalize hashL 17 [key] = h1 at *
  rintro e w5 ⟨rfl, hB5, hg5⟩
  have d5 : Below w.heap.size w w5 := below_own (below_alloc d3 _) hg5 hb0
  have zB5 := hB5.lt
  go_wp2_with fail
  refine (hasher1_any b h1 _ n c l _ (hs.below d5) hn p1.1 p1.2 hl64 hB5 (by intro a e; have := hA a e; omega)).mono ?_
  generalize hashL h1 l = h2' at *
  rintro e w7 ⟨rfl, hB7, hg7⟩
  have d7 : Below w.heap.size w w7 := below_own d5 hg7 hb0
  have zB7 := hB7.lt
  go_wp2_with fail
  refine (hasher1_any b h2' _ 1 1 [key] _ (sl1 w7 _ key) (by omega) p2.1 p2.2 hkey (hB7.alloc _) (by intro a e; injection e with e; subst e; dsimp only; omega)).mono ?_
  rintro e w9 ⟨rfl, hB9, hg9⟩
  have d9 : Below w.heap.size w w9 := below_own (below_alloc d7 _) hg9 hb0
  go_wp2
  go_ret
  exact ⟨ret_int HT.out.symm, d9⟩
end Go.Proofs.YtmfhfebakdkkdaaGreat
