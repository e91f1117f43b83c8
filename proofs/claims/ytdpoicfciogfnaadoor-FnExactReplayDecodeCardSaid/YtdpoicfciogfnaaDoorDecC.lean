/- Texts cut into pieces: plain facts, the reference's cut. (Seat D) -/
import Derived.Test.YtdpoicfciogfnaaDoorEncD
import Derived.Laws.DeepStrings4
namespace Go.Proofs.YtdpoicfciogfnaaDoor
open Go.ChangeShapes Go.WideShapes Go.ChangeAt Go.RowKit
/-- A text in pieces at every byte c; 'cur' is the piece under way. -/
def cutG (c : UInt8) : List UInt8 → List UInt8 → List (List UInt8)
  | cur, [] => [cur]
  | cur, x :: l => if x = c then cur :: cutG c [] l else cutG c (cur ++ [x]) l
def cutL (c : UInt8) (l : List UInt8) : List (List UInt8) := cutG c [] l
def encStr (x : List UInt8) : List Value := [.string (st x)]
theorem encStr_len (x : List UInt8) : (encStr x).length = 1 := rfl
theorem one_str (x : List UInt8) : ∀ u ∈ encStr x, u.oneCell' = true := by intro u hu; simp [encStr] at hu; subst hu; rfl
theorem cutG_len (c : UInt8) : ∀ (l cur : List UInt8), (cutG c cur l).length ≤ l.length + 1
  | [], _ => by simp [cutG]
  | x :: l, cur => by
    unfold cutG
    split
    · have := cutG_len c l []
      simp only [List.length_cons]; omega
    · have := cutG_len c l (cur ++ [x])
      simp only [List.length_cons]; omega
theorem cutL_len (c : UInt8) (l : List UInt8) : (cutL c l).length ≤ l.length + 1 := cutG_len c l []
def pc (E : List UInt8) (f k : Nat) : List UInt8 := (E.drop f).take (k - f)
theorem pc_self (E : List UInt8) (k : Nat) : pc E k k = [] := by simp [pc]
theorem pc_snoc {E : List UInt8} {f k : Nat} {x : UInt8} (hf : f ≤ k) (hx : E[k]? = some x) : pc E f (k + 1) = pc E f k ++ [x] := by
  unfold pc
  rw [show k + 1 - f = (k - f) + 1 by omega, List.take_add_one, List.getElem?_drop, show f + (k - f) = k by omega, hx]
  rfl
theorem drop_at {E : List UInt8} {k : Nat} {x : UInt8} (hx : E[k]? = some x) : E.drop k = x :: E.drop (k + 1) := by
  obtain ⟨hk, rfl⟩ := List.getElem?_eq_some_iff.1 hx
  exact (List.drop_eq_getElem_cons hk)
theorem st_pc (E : List UInt8) (f k : Nat) : (st E).extract f k = st (pc E f k) := st_cut E f k
theorem own_nilS (w : World) (B N : Nat) (T : TypeId) (hB : B ≤ w.heap.size) (hN : w.heap.size = N) : Own (w.alloc (.cells #[] T)) B T 1 encStr (.slice (some ⟨N, 0, none⟩) 0 0) [] := by
  subst hN
  exact World.ownsRow_lit (base := B) (size := 1) w #[] 0 hB (by decide) rfl
theorem sl_str (w : World) (T : TypeId) (x : List UInt8) (g : Nat) (hg : w.heap.size = g) : Sl (w.alloc (.cells #[.string (st x)] T)) 1 encStr (some ⟨g, 0, none⟩) 1 [x] := by
  subst hg
  exact Sl.one w x T _ rfl
theorem Tryd.infoStr : (Tryd.prog.info? 9).map (fun i => (i.zero, i.size, i.bytes)) = some (some (.string ⟨#[]⟩), 1, 16) := by kernel_rfl
set_option maxRecDepth 100000 in
set_option maxHeartbeats 2000000 in
theorem l23Cut_any (E : List UInt8) (c : UInt8) (w : World) (hE : E.length ≤ 1048576) :
    Calls Tryd.prog 28 #[.string (st E), .int .u8 c.toNat] w fun e w' => ∃ A cp, e = .returned (.slice A (cutL c E).length cp) ∧ Own w' w.heap.size 9 1 encStr (.slice A (cutL c E).length cp) (cutL c E) ∧ Below w.heap.size w w' := by
  obtain ⟨i0, hi, hz0, hz1, hz2⟩ := info_parts Tryd.infoStr
  have e4 : (st E).size = E.length := st_size E
  go_enter Tryd.func28, Tryd.ntmps28
  go_wp2
  go_loopw [5, 6, 7] (fun v q i wr => ∃ (k f : Nat) (out : List (List UInt8)), k ≤ E.length ∧ f ≤ k ∧ out.length ≤ k ∧ i = .int .i64 k ∧ q = .int .i64 f ∧ out ++ cutG c (pc E f k) (E.drop k) = cutL c E ∧ Own wr w.heap.size 9 1 encStr v out ∧ Below w.heap.size w wr) (fun _ _ i _ => E.length - (intOf i).toNat)
  case atStart => exact ⟨0, 0, [], Nat.zero_le _, Nat.le_refl _, Nat.le_refl _, rfl, rfl, rfl, own_nilS _ _ _ _ (Nat.le_refl _) rfl, below_alloc (Below.refl _ _) _⟩
  case round =>
    obtain ⟨k, f, out, hk, hf, hol, rfl, rfl, hcut, ho, hb⟩ := hrel
    have yb := hb.size
    have HX := Lib.hid ho.lt
    have HC := Lib.hid hcut
    clear hcut
    have s1 : (st E).extract f k = st (pc E f k) := st_pc E f k
    by_cases hlt : k < E.length
    · obtain ⟨x, hx⟩ : ∃ x, E[k]? = some x := ⟨_, List.getElem?_eq_getElem hlt⟩
      have q := fun W => st_at Tryd.prog 9 Tryd.underlying9 W hx
      have HD := Lib.hid (drop_at hx)
      have HS := Lib.hid (pc_snoc hf hx)
      clear hx
      by_cases hc : x = c
      · subst hc
        go_wp2_with (at_builtin; refine wp_appS rfl _ _ 53 rfl w.heap.size 9 i0 (.string ⟨#[]⟩) 1 16 Tryd.underlying53 hi hz0 hz1 hz2 rfl (by decide) encStr_len one_str _ out [pc E f k] rfl (ho.alloc _) _ 1 1 rfl (sl_str _ _ _ _ rfl) (by intro e; cases e) (by unfold maxLen; omega) (by omega) (by simp; omega) ?_; intro v3 w3 ho3 hg3; have hB3 : Below w.heap.size w w3 := Below.grown (below_alloc hb _) hg3 (by simp; omega) (fun g e => (HX.out g e).1))
        go_roundw
        case rel => exact ⟨k + 1, k + 1, out ++ [pc E f k], by omega, Nat.le_refl _, by simp; omega, by go_num, by go_num, by rw [← HC.out, HD.out, pc_self, cutG, if_pos rfl, List.append_assoc]; rfl, ho3, hB3⟩
        case measure => simp [intOf]; omega
      · have h11 : x.toNat ≠ c.toNat := fun e => hc (UInt8.toNat.inj e)
        have h12 : (x.toNat : Int) ≠ (c.toNat : Int) := by omega
        go_wp2
        go_roundw
        case rel => exact ⟨k + 1, f, out, by omega, by omega, by omega, by go_num, rfl, by rw [← HC.out, HD.out, HS.out, cutG, if_neg hc], ho, hb⟩
        case measure => simp [intOf]; omega
    · obtain rfl : k = E.length := by omega
      have HC2 := HC.out
      rw [List.drop_length, cutG] at HC2
      have HC3 := Lib.hid HC2
      have hnl : ¬ ((E.length : Int) < (E.length : Int)) := by omega
      clear HC2
      go_wp2_with (at_builtin; refine wp_appS rfl _ _ 53 rfl w.heap.size 9 i0 (.string ⟨#[]⟩) 1 16 Tryd.underlying53 hi hz0 hz1 hz2 rfl (by decide) encStr_len one_str _ out [pc E f E.length] rfl (ho.alloc _) _ 1 1 rfl (sl_str _ _ _ _ rfl) (by intro e; cases e) (by unfold maxLen; omega) (by omega) (by simp; omega) ?_; intro v3 w3 ho3 hg3; have hB3 : Below w.heap.size w w3 := Below.grown (below_alloc hb _) hg3 (by simp; omega) (fun g e => (HX.out g e).1))
      rw [HC3.out] at ho3
      obtain ⟨A3, c3, rfl, hc3, _⟩ := ho3.form
      go_ret
      exact ⟨A3, c3, rfl, ho3, hB3⟩
end Go.Proofs.YtdpoicfciogfnaaDoor
