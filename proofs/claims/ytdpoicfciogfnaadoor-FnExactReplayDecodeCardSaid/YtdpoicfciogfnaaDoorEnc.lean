/- Texts of replays: numbers with blanks ahead, lines. (Seat D) -/
import Derived.Test.YtdpoicfciogfnaaDoorZPart
import Derived.Test.YtdpoicfciogfnaaDoorShelf
import Derived.Laws.Concat
import Derived.Lib.AppendIntMem
import Derived.Lib.ItoaLen
namespace Go.Proofs.YtdpoicfciogfnaaDoor
open Go.ChangeShapes Go.WideShapes Go.ChangeAt Go.RowKit
def st (l : List UInt8) : ByteArray := ⟨l.toArray⟩
theorem st_add (x y : List UInt8) : st x ++ st y = st (x ++ y) := ByteArray.mk_append_mk x y
theorem st_size (x : List UInt8) : (st x).size = x.length := by show x.toArray.size = _; simp
/-- The table that the library's Itoa reads. -/
def Tab (w : World) : Prop := Lib.TabIs Tryd.prog w "internal/strconv.uint64pow10" .u64 Lib.pow10Tab
theorem Tab.below {w w' : World} (h : Tab w) (hb : Below w.heap.size w w') : Tab w' := Lib.tabBelow_of_tabIs h w' hb
def numsB (l : List Int) : List UInt8 := l.flatMap fun n => 32 :: Lib.itoa n
theorem numsB_snoc {l : List Int} {k : Nat} {x : Int} (hx : l[k]? = some x) : numsB (l.take (k + 1)) = numsB (l.take k) ++ (32 :: Lib.itoa x) := by
  unfold numsB
  rw [List.take_add_one, hx, List.flatMap_append]
  simp
def int63 (n : Int) : Prop := 0 ≤ n ∧ n ≤ 9223372036854775807
theorem numsB_len : ∀ l : List Int, (∀ y ∈ l, int63 y) → (numsB l).length ≤ 22 * l.length
  | [], _ => Nat.le_refl _
  | y :: l, h => by
    have h1 := Lib.itoa_length_le y (by have := (h y (by simp)).1; omega) (h y (by simp)).2
    have h2 := numsB_len l fun z hz => h z (by simp [hz])
    unfold numsB at h2 ⊢
    rw [List.flatMap_cons, List.length_append, List.length_cons, List.length_cons]
    omega
def lineB (x : List UInt8) (l : List Int) : List UInt8 := x ++ numsB l ++ [10]
theorem itoa_any (n : Int) (w : World) (hn : int63 n) (ht : Tab w) : Calls Tryd.prog 50 #[.int .i64 n] w fun e w' => e = .returned (.string (st (Lib.itoa n))) ∧ Below w.heap.size w w' :=
  (Tryd.strconv_Itoa n (by have := hn.1; omega) hn.2 w ht).mono fun e w' ⟨he, k, os, hw⟩ => ⟨he, hw ▸ Lib.below_grow _ w (Nat.le_refl _) k os⟩
theorem add_st {P : Program} {a b c : List UInt8} (W : World) (h : a.length + b.length ≤ 1000000) (e : a ++ b = c) : (Op.stringOp .add (st a) (st b)).run P W = .ok (.string (st c)) W := by
  rw [run_string_add_sum W _ _ (by rw [st_size, st_size]; omega), st_add, e]
theorem itoa_63 {y : Int} (h : int63 y) : (Lib.itoa y).length ≤ 21 := Lib.itoa_length_le y (by have := h.1; omega) h.2
set_option maxRecDepth 100000 in
theorem numbersLine_any (x : List UInt8) (A : Option Addr) (c : Nat) (l : List Int) (w : World) (hs : Sl w 1 encInt A l.length l) (hn : l.length ≤ 1000) (hx : x.length ≤ 1000) (hl : ∀ y ∈ l, int63 y) (ht : Tab w) :
    Calls Tryd.prog 24 #[.string (st x), .slice A l.length c] w fun e w' => e = .returned (.string (st (lineB x l))) ∧ Below w.heap.size w w' := by
  have HT := Lib.hid ht
  have HL := Lib.hid hl
  clear ht hl
  go_enter Tryd.func24, Tryd.ntmps24
  go_wp2
  go_loopw [0, 9] (fun v i wr => ∃ k : Nat, k ≤ l.length ∧ i = .int .i64 k ∧ v = .string (st (x ++ numsB (l.take k))) ∧ Below w.heap.size w wr) (fun _ i _ => l.length - (intOf i).toNat)
  case atStart => exact ⟨0, Nat.zero_le _, rfl, by simp [numsB], Below.refl _ _⟩
  case round =>
    obtain ⟨k, hk, rfl, rfl, hb⟩ := hrel
    have hln := numsB_len (l.take k) fun y hy => HL.out y (List.mem_of_mem_take hy)
    rw [List.length_take, Nat.min_eq_left hk] at hln
    by_cases hlt : k < l.length
    · obtain ⟨b, off, y, rfl, hbl, hy, hc⟩ := (hs.below hb).at_ hlt
      have q0 : wr.cell? ⟨b, off + k, none⟩ = some (.int .i64 y) := by simpa using hc 0 _ rfl
      have hyi := HL.out y (List.mem_of_getElem? hy)
      have hyl := itoa_63 hyi
      have HY := Lib.hid (numsB_snoc hy)
      have hT := Lib.hid (HT.out.below hb)
      clear hc hy
      have h1 : ∀ W, (Op.stringOp .add ⟨#[32]⟩ (st (Lib.itoa y))).run Tryd.prog W = .ok (.string (st (32 :: Lib.itoa y))) W := fun W => add_st (a := [32]) W (by simp; omega) rfl
      have h2 : ∀ W, (Op.stringOp .add (st (x ++ numsB (l.take k))) (st (32 :: Lib.itoa y))).run Tryd.prog W = .ok (.string (st (x ++ numsB (l.take (k + 1))))) W := fun W => add_st W (by simp; omega) (by rw [HY.out, List.append_assoc])
      clear hln
      go_wp2_with (go_at_call 50; refine (itoa_any y _ hyi (hT.out.below (by (with_reducible repeat first | assumption | exact bl0 _ _ | refine blA ?_ _ | (refine blS ?_ ?_ _; (simp <;> omega)) | refine blD ?_ | refine blN ?_ _ | refine blF ?_ ‹_›)))).mono ?_; rintro e w1 ⟨rfl, hb1⟩)
      have hb2 : Below w.heap.size w w1 := below_after hb (below_after (by (with_reducible repeat first | assumption | exact bl0 _ _ | refine blA ?_ _ | (refine blS ?_ ?_ _; (simp <;> omega)) | refine blD ?_ | refine blN ?_ _ | refine blF ?_ ‹_›)) hb1)
      go_wp2
      go_roundw
      case rel => exact ⟨k + 1, by omega, by go_num, rfl, by (with_reducible repeat first | assumption | exact bl0 _ _ | refine blA ?_ _ | (refine blS ?_ ?_ _; (simp <;> omega)) | refine blD ?_ | refine blN ?_ _ | refine blF ?_ ‹_›)⟩
      case measure => simp [intOf]; omega
    · obtain rfl : k = l.length := by omega
      rw [List.take_length] at *
      have h3 : ∀ W, (Op.stringOp .add (st (x ++ numsB l)) ⟨#[10]⟩).run Tryd.prog W = .ok (.string (st (lineB x l))) W := fun W => add_st (b := [10]) W (by simp; omega) rfl
      have hnl : ¬ ((l.length : Int) < (l.length : Int)) := by omega
      go_wp2
      go_ret
      exact ⟨rfl, by (with_reducible repeat first | assumption | exact bl0 _ _ | refine blA ?_ _ | (refine blS ?_ ?_ _; (simp <;> omega)) | refine blD ?_ | refine blN ?_ _ | refine blF ?_ ‹_›)⟩
end Go.Proofs.YtdpoicfciogfnaaDoor
