/- Lists of inputs: are they valid and few enough? The closure handed to slices.ContainsFunc. -/
import Derived.Test.YtkendoffknjpiaaInps
namespace Go.Proofs.Ytkendoffknjpiaa
open Go.ChangeShapes Go.WideShapes Go.ChangeAt Go.RowKit
theorem inputsOk1_any (x : Inp) (w : World) : Calls Try.prog 84 #[.agg #[.int .i64 x.s, .int .i64 x.p, .bool x.z]] w fun e w' => e = .returned (.bool (!inpOk x)) ∧ Below w.heap.size w w' := by
  go_enter Try.func84, Try.ntmps84
  go_wp2_with (go_at_call 78; refine (implInputValid_any _ _).mono ?_; rintro e w' ⟨rfl, hb⟩)
  go_ret
  exact ⟨rfl, by repeat (first | exact Below.refl _ _ | refine below_after ?_ (by assumption) | refine Below.alloc ?_ (by simp <;> omega) _)⟩
def SomeIdx (b : Bool) (w : World) (e : Ending) (w' : World) : Prop := ∃ r : Int, e = .returned (.int .i64 r) ∧ decide (0 ≤ r) = b ∧ Below w.heap.size w w'
theorem all_take {α : Type} {p : α → Bool} {l : List α} {k : Nat} {x : α} (hx : l[k]? = some x) (h : (l.take k).all p = true) (hp : p x = true) : (l.take (k + 1)).all p = true := by
  rw [List.take_add_one, hx, List.all_append, h]; simp [hp]
theorem all_not {α : Type} {p : α → Bool} {l : List α} {k : Nat} {x : α} (hx : l[k]? = some x) (hp : p x = false) : l.all p = false := by
  rw [List.all_eq_false]
  exact ⟨x, List.mem_of_getElem? hx, by simp [hp]⟩
set_option maxRecDepth 100000 in
theorem indexFuncInp_any (A : Option Addr) (n c : Nat) (l : List Inp) (w : World) (h : Sl w 3 encInp A n l) (hn : n ≤ 9223372036854775807) : Calls Try.prog 98 #[.slice A n c, .func (.func 84) #[] #[]] w (SomeIdx (!l.all inpOk) w) := by
  obtain rfl := h.len
  go_enter Try.func98, Try.ntmps98
  go_wp2
  go_loopw [8] (fun i wr => ∃ k : Nat, k ≤ l.length ∧ i = .int .i64 k ∧ (l.take k).all inpOk = true ∧ Below w.heap.size w wr) (fun i _ => l.length - (intOf i).toNat)
  case atStart => exact ⟨0, Nat.zero_le _, rfl, rfl, Below.refl _ _⟩
  case round =>
    obtain ⟨k, hk, rfl, ht, hb⟩ := hrel
    have Ht := Lib.hid ht; clear ht
    by_cases hlt : k < l.length
    · obtain ⟨b, off, x, rfl, hbl, hx, hc⟩ := (h.below hb).at_ hlt
      have q0 : wr.cell? ⟨b, off + k * 3, none⟩ = some (.int .i64 x.s) := hc 0 _ rfl
      have q1 : wr.cell? ⟨b, off + k * 3 + 1, none⟩ = some (.int .i64 x.p) := hc 1 _ rfl
      have q2 : wr.cell? ⟨b, off + k * 3 + 2, none⟩ = some (.bool x.z) := hc 2 _ rfl
      have Hx := Lib.hid hx; clear hx
      clear h hc
      go_wp2_with (go_at_call 84; refine (inputsOk1_any _ _).mono ?_; rintro e w' ⟨rfl, hb1⟩)
      · have ht : (!inpOk x) = true := by assumption
        go_ret
        exact ⟨(k : Int), rfl, by rw [all_not Hx.out (by simpa using ht)]; simp, hb.trans (hb1.mono hb.size)⟩
      · have ht : (!inpOk x) = false := by assumption
        go_roundw
        case rel => exact ⟨k + 1, by omega, by go_num, all_take Hx.out Ht.out (by simpa using ht), hb.trans (hb1.mono hb.size)⟩
        case measure => simp [intOf]; omega
    · have hkn : l.take k = l := List.take_of_length_le (by omega)
      have H := Lib.hid hkn; clear hkn
      go_wp2
      go_ret
      exact ⟨-1, rfl, by have := Ht.out; rw [H.out] at this; rw [this]; rfl, hb⟩
theorem containsFuncInp_any (A : Option Addr) (n c : Nat) (l : List Inp) (w : World) (h : Sl w 3 encInp A n l) (hn : n ≤ 9223372036854775807) : Calls Try.prog 83 #[.slice A n c, .func (.func 84) #[] #[]] w fun e w' => e = .returned (.bool (!l.all inpOk)) ∧ Below w.heap.size w w' := by
  go_enter Try.func83, Try.ntmps83
  go_wp2_with (go_at_call 98; refine (indexFuncInp_any _ _ _ l _ h hn).mono ?_; rintro e w' ⟨r, rfl, hr, hb⟩; have HR := Lib.hid hr; clear hr)
  go_ret
  exact ⟨ret_bool HR.out, hb⟩
def inputsOkB (l : List Inp) : Bool := l.all inpOk && decide (l.length ≤ 60)
theorem inputsOkB_iff {l : List Inp} : inputsOkB l = true ↔ (∀ x ∈ l, inpOk x = true) ∧ l.length ≤ 60 := by simp [inputsOkB]
theorem inputsOk_any (A : Option Addr) (n c : Nat) (l : List Inp) (w : World) (h : Sl w 3 encInp A n l) (hn : n ≤ 9223372036854775807) : Calls Try.prog 62 #[.slice A n c] w fun e w' => e = .returned (.bool (inputsOkB l)) ∧ Below w.heap.size w w' := by
  obtain rfl := h.len
  by_cases h60 : l.length ≤ 60
  · have h60i : ((l.length : Nat) : Int) ≤ 60 := by omega
    go_enter Try.func62, Try.ntmps62
    go_wp2_with (go_at_call 83; refine (containsFuncInp_any _ _ _ l _ h hn).mono ?_; rintro e w' ⟨rfl, hb⟩)
    go_ret
    exact ⟨ret_bool (by simp [inputsOkB, h60]), hb⟩
  · have h60i : ¬ ((l.length : Nat) : Int) ≤ 60 := by omega
    go_enter Try.func62, Try.ntmps62
    go_wp2_with (go_at_call 83; refine (containsFuncInp_any _ _ _ l _ h hn).mono ?_; rintro e w' ⟨rfl, hb⟩)
    go_ret
    exact ⟨ret_bool (by simp [inputsOkB, h60]), Below.refl _ _⟩
set_option maxRecDepth 100000 in
theorem l23Inputs_any (A : Option Addr) (n c : Nat) (l : List Inp) (w : World) (h : Sl w 3 encInp A n l) (hn : n ≤ 9223372036854775807) : Calls Try.prog 60 #[.slice A n c] w fun e w' => e = .returned (.bool (inputsOkB l)) ∧ Below w.heap.size w w' := by
  obtain rfl := h.len
  go_enter Try.func60, Try.ntmps60
  go_wp2
  go_loopw [3] (fun i wr => ∃ k : Nat, k ≤ l.length ∧ i = .int .i64 k ∧ (l.take k).all inpOk = true ∧ Below w.heap.size w wr) (fun i _ => l.length - (intOf i).toNat)
  case atStart => exact ⟨0, Nat.zero_le _, rfl, rfl, Below.refl _ _⟩
  case round =>
    obtain ⟨k, hk, rfl, ht, hb⟩ := hrel
    have Ht := Lib.hid ht; clear ht
    by_cases hlt : k < l.length
    · obtain ⟨b, off, x, rfl, hbl, hx, hc⟩ := (h.below hb).at_ hlt
      have q0 : wr.cell? ⟨b, off + k * 3, none⟩ = some (.int .i64 x.s) := hc 0 _ rfl
      have q1 : wr.cell? ⟨b, off + k * 3 + 1, none⟩ = some (.int .i64 x.p) := hc 1 _ rfl
      have q2 : wr.cell? ⟨b, off + k * 3 + 2, none⟩ = some (.bool x.z) := hc 2 _ rfl
      have Hx := Lib.hid hx; clear hx
      clear h hc
      go_wp2_with (go_at_call 82; refine (specInputValid_any _ _).mono ?_; rintro e w' ⟨rfl, hb1⟩)
      · have ht : (!inpOk x) = true := by assumption
        go_ret
        exact ⟨ret_bool (by unfold inputsOkB; rw [all_not Hx.out (by simpa using ht)]; rfl), hb.trans (hb1.mono hb.size)⟩
      · have ht : (!inpOk x) = false := by assumption
        go_roundw
        case rel => exact ⟨k + 1, by omega, by go_num, all_take Hx.out Ht.out (by simpa using ht), hb.trans (hb1.mono hb.size)⟩
        case measure => simp [intOf]; omega
    · have hkn : l.take k = l := List.take_of_length_le (by omega)
      have H := Lib.hid hkn; clear hkn
      by_cases h60 : ((l.length : Nat) : Int) ≤ 60
      all_goals
        go_wp2
        go_ret
        exact ⟨ret_bool (by have := Ht.out; rw [H.out] at this; unfold inputsOkB; rw [this]; simp; omega), hb⟩
end Go.Proofs.Ytkendoffknjpiaa
