/- Texts cut into pieces: the reference's lines. (Seat D) -/
import Derived.Test.YtdpoicfciogfnaaDoorDecN
import Derived.Deep.RegionHeld3
namespace Go.Proofs.YtdpoicfciogfnaaDoor
open Go.ChangeShapes Go.WideShapes Go.ChangeAt Go.RowKit
theorem cutG_cons (c : UInt8) : ∀ (l cur : List UInt8), ∃ h t, cutG c cur l = h :: t
  | [], cur => ⟨cur, [], rfl⟩
  | x :: l, cur => by
    unfold cutG
    split
    · exact ⟨_, _, rfl⟩
    · exact cutG_cons c l _
def numsOf : List (List UInt8) → List Int × Bool
  | [] => ([], true)
  | w :: ws => if numW w < 0 then ([], false) else (numW w :: (numsOf ws).1, (numsOf ws).2)
/-- A line as the reference reads it: its numbers, and whether it is well formed. -/
def lineP (word L : List UInt8) : List Int × Bool := ((numsOf (cutL 32 L).tail).1, (numsOf (cutL 32 L).tail).2 && ((cutL 32 L).headD [] == word))
theorem numW_bd (W : List UInt8) : -1 ≤ numW W ∧ numW W ≤ 9999999 := by
  unfold numW
  split
  · rename_i h
    have h1 := numV_bd W h.2.2.2
    have h2 : (10 ^ W.length : Nat) ≤ 10000000 := Nat.le_trans (Nat.pow_le_pow_right (by decide) h.2.1) (by decide : (10 ^ 7 : Nat) ≤ 10000000)
    omega
  · omega
theorem numsOf_len : ∀ l : List (List UInt8), (numsOf l).1.length ≤ l.length
  | [] => Nat.le_refl _
  | w :: ws => by
    unfold numsOf
    split
    · simp
    · have := numsOf_len ws
      simp only [List.length_cons]; omega
theorem cutL_le {E : List UInt8} {c : UInt8} (hE : E.length ≤ 1048576) : (cutL c E).length ≤ 1048577 := Nat.le_trans (cutL_len c E) (by omega)
theorem cutG_mem (c : UInt8) : ∀ (l cur : List UInt8), ∀ p ∈ cutG c cur l, p.length ≤ cur.length + l.length
  | [], cur, p, hp => by simp [cutG] at hp; subst hp; simp
  | x :: l, cur, p, hp => by
    unfold cutG at hp
    split at hp
    · rcases List.mem_cons.1 hp with rfl | hp
      · simp
      · have := cutG_mem c l [] p hp
        simp at this ⊢; omega
    · have := cutG_mem c l (cur ++ [x]) p hp
      simp at this ⊢; omega
theorem cutL_mem {E p : List UInt8} {c : UInt8} (hE : E.length ≤ 1048576) (hp : p ∈ cutL c E) : p.length ≤ 1048576 := by
  have := cutG_mem c E [] p hp
  simp at this; omega
theorem Tryd.infoI2 : (Tryd.prog.info? 3).map (fun i => (i.zero, i.size, i.bytes)) = some (some (.int .i64 0), 1, 8) := by kernel_rfl
set_option maxRecDepth 100000 in
set_option maxHeartbeats 2000000 in
theorem l23Line_any (L word : List UInt8) (w : World) (hL : L.length ≤ 1048576) :
    Calls Tryd.prog 55 #[.string (st L), .string (st word)] w fun e w' => ∃ A cp, e = .returned (.tuple #[.slice A (lineP word L).1.length cp, .bool (lineP word L).2]) ∧ Own w' w.heap.size 3 1 encInt (.slice A (lineP word L).1.length cp) (lineP word L).1 ∧ Below w.heap.size w w' := by
  obtain ⟨i0, hi, hz0, hz1, hz2⟩ := info_parts Tryd.infoI2
  have hcl := cutL_le (c := 32) hL
  have hcm := fun p => cutL_mem (p := p) (c := 32) hL
  obtain ⟨w0, wt, hws⟩ := cutG_cons 32 L []
  obtain ⟨P, hP⟩ : ∃ P, lineP word L = P := ⟨_, rfl⟩
  have hP2 : P = ((numsOf wt).1, (numsOf wt).2 && (w0 == word)) := by
    rw [← hP]; unfold lineP; rw [show cutL 32 L = w0 :: wt from hws]; rfl
  have hws2 : cutL 32 L = w0 :: wt := hws
  rw [hws2] at hcl hcm
  rw [hP]
  have HP := Lib.hid hP2
  have HW := Lib.hid hws2
  have HM := Lib.hid hcm
  clear hP hP2 hws hws2 hcm
  have hwl : wt.length + 1 ≤ 1048577 := hcl
  clear hcl
  go_enter Tryd.func55, Tryd.ntmps55
  go_wp2_with fail
  refine (l23Cut_any L 32 _ hL).mono ?_
  rw [HW.out]
  rintro e w1 ⟨A, cp, rfl, O1, hb1⟩
  have S1 := O1.sl' encStr_len
  have z1 := hb1.size
  clear O1
  go_wp2_with fail
  go_loopw [7, 8, 9] (fun v i _ wr => ∃ (k : Nat) (out : List Int), k ≤ wt.length ∧ out.length ≤ k ∧ i = .int .i64 ((k : Int) + 1) ∧ out ++ (numsOf (wt.drop k)).1 = (numsOf wt).1 ∧ (numsOf (wt.drop k)).2 = (numsOf wt).2 ∧ Own wr w1.heap.size 3 1 encInt v out ∧ Below w1.heap.size w1 wr) (fun _ i _ _ => wt.length + 1 - (intOf i).toNat)
  case atStart => exact ⟨0, [], Nat.zero_le _, Nat.le_refl _, rfl, rfl, rfl, own_nilI _ _ _ _ (Nat.le_refl _) rfl, below_alloc (Below.refl _ _) _⟩
  case round =>
    obtain ⟨k, out, hk, hol, rfl, h1, h2, ho, hb⟩ := hrel
    have yb := hb.size
    have HX := Lib.hid ho.lt
    have H1 := Lib.hid h1
    have H2 := Lib.hid h2
    clear h1 h2
    have S2 := S1.below hb
    by_cases hlt : k < wt.length
    · obtain ⟨b, off, y, rfl, hbl, hy, hc⟩ := S2.at_ (k := k + 1) (by simpa using hlt)
      have q0 : wr.cell? ⟨b, off + (k + 1), none⟩ = some (.string (st y)) := by simpa using hc 0 _ rfl
      have hyl := HM.out y (List.mem_of_getElem? hy)
      have hnb := numW_bd y
      have hd : wt.drop k = y :: wt.drop (k + 1) := by
        have : wt[k]? = some y := by simpa using hy
        obtain ⟨hk', rfl⟩ := List.getElem?_eq_some_iff.1 this
        exact List.drop_eq_getElem_cons hk'
      have hi1 : ((k : Int) + 1) < ((wt.length + 1 : Nat) : Int) := by omega
      rw [hd] at H1 H2
      clear hc hy hd
      obtain ⟨Y, hY⟩ : ∃ Y, numW y = Y := ⟨_, rfl⟩
      rw [hY] at hnb
      have HY := Lib.hid hY
      clear hY
      by_cases hneg : Y < 0
      · have e1 := H1.out
        have e2 := H2.out
        rw [numsOf, HY.out, if_pos hneg] at e1 e2
        have hp : P = (out, false) := by rw [HP.out, ← e1, ← e2]; simp
        clear e1 e2
        subst hp
        obtain ⟨A3, c3, rfl, hc3, _⟩ := ho.form
        go_wp2_with (go_at_call 79; refine (l23Number_any y _ hyl).mono ?_; rw [HY.out]; rintro e w2 ⟨rfl, hb2⟩)
        exact bodyPost_ret (v := .tuple #[.slice A3 out.length c3, .bool false]) (by simp [results, Tryd.results55, go_sem]) rfl ⟨A3, c3, rfl, (ho.later hb2).mono (by omega), by (with_reducible repeat first | assumption | exact bl0 _ _ | refine blA ?_ _ | (refine blS ?_ ?_ _; (simp <;> omega)) | refine blD ?_ | refine blN ?_ _ | refine blF ?_ ‹_›)⟩
      · have e1 := H1.out
        have e2 := H2.out
        rw [numsOf, HY.out, if_neg hneg] at e1 e2
        have HE1 := Lib.hid e1
        have HE2 := Lib.hid e2
        clear e1 e2
        go_wp2_with (first
          | (go_at_call 79; refine (l23Number_any y _ hyl).mono ?_; rw [HY.out]; rintro e w2 ⟨rfl, hb2⟩)
          | (at_builtin; refine wp_appS rfl _ _ 23 rfl w1.heap.size 3 i0 (.int .i64 0) 1 8 Tryd.underlying23 hi hz0 hz1 hz2 rfl (by decide) encInt_len one_int _ out [Y] rfl ((ho.later hb2).alloc _) _ 1 1 rfl (sl_one1 _ _ _ _ rfl) (by intro e; cases e) (by unfold maxLen; omega) (by omega) (by have := hb2.size; simp; omega) ?_; intro v3 w3 ho3 hg3; have hB3 : Below w1.heap.size w1 w3 := Below.grown (below_alloc (below_after hb hb2) _) hg3 (by have := hb2.size; simp; omega) (fun g e => (HX.out g e).1)))
        go_roundw
        case rel => exact ⟨k + 1, out ++ [Y], by omega, by simp; omega, by go_num, by rw [← HE1.out, List.append_assoc]; rfl, HE2.out, ho3, hB3⟩
        case measure => simp [intOf]; omega
    · obtain rfl : k = wt.length := by omega
      have e1 := H1.out
      have e2 := H2.out
      rw [List.drop_length, numsOf] at e1 e2
      have hp : P = (out, w0 == word) := by rw [HP.out, ← e1, ← e2]; simp
      clear e1 e2
      subst hp
      obtain ⟨A3, c3, rfl, hc3, _⟩ := ho.form
      obtain ⟨b, off, y, rfl, hbl, hy, hc⟩ := S2.at_ (k := 0) (by simp)
      obtain rfl : w0 = y := by simpa using hy
      have q0 : wr.cell? ⟨b, off, none⟩ = some (.string (st w0)) := by simpa using hc 0 _ rfl
      have f1 : (st w0).toList = w0 := st_toList w0
      have f2 : (st word).toList = word := st_toList word
      have hnl : ¬ ((wt.length : Int) + 1 < ((wt.length + 1 : Nat) : Int)) := by omega
      clear hc hy
      go_wp2
      go_quiet (fail)
      go_wp2
      exact bodyPost_ret (v := .tuple #[.slice A3 out.length c3, .bool (w0 == word)]) (by simp [results, Tryd.results55, go_sem]) rfl ⟨A3, c3, rfl, ho.mono (by omega), by (with_reducible repeat first | assumption | exact bl0 _ _ | refine blA ?_ _ | (refine blS ?_ ?_ _; (simp <;> omega)) | refine blD ?_ | refine blN ?_ _ | refine blF ?_ ‹_›)⟩
end Go.Proofs.YtdpoicfciogfnaaDoor
