/- Parts of inputs: the program's linked list, by its contract. -/
import Derived.Test.YtkendoffknjpiaaPrtsR
import Derived.Deep.LoopGhost
namespace Go.Proofs.Ytkendoffknjpiaa
open Go.ChangeShapes Go.WideShapes Go.ChangeAt Go.RowKit
/-- A linked list of parts: its nodes lie ever lower, none below B. -/
def Lk (w : World) (B : Nat) : Value → List Prt → Nat → Prop
  | v, [], _ => v = .pointer none
  | v, p :: ps, u => ∃ b v', v = .pointer (some ⟨b, 0, none⟩) ∧ B ≤ b ∧ b < u ∧ Blk w b [.int .i64 p.c, .int .i64 p.m, v'] ∧ w.frozen? ⟨b, 1, none⟩ = false ∧ Lk w B v' ps b
theorem Lk.below {w w' : World} {B N : Nat} (hb : Below N w w') : ∀ {R : List Prt} {v : Value} {u : Nat}, Lk w B v R u → u ≤ N → Lk w' B v R u
  | [], _, _, h, _ => h
  | _ :: _, _, _, ⟨b, v', e, h1, h2, h3, hf, h4⟩, hu => ⟨b, v', e, h1, h2, h3.below hb (by omega), (hb.frozen (p := ⟨b, 1, none⟩) (show b < N by omega)).trans hf, h4.below hb (by omega)⟩
theorem Lk.mono {w : World} {B u u' : Nat} (hu : u ≤ u') : ∀ {R : List Prt} {v : Value}, Lk w B v R u → Lk w B v R u'
  | [], _, h => h
  | _ :: _, _, ⟨b, v', e, h1, h2, h3, hf, h4⟩ => ⟨b, v', e, h1, by omega, h3, hf, h4⟩
set_option maxRecDepth 100000 in
theorem reverseNil_any (A : Option Addr) (cap : Nat) (w : World) :
    Calls Try.prog 88 #[.slice A 0 cap] w fun e w' => e = .returned (.tuple #[]) ∧ w' = w := by
  go_enter Try.func88, Try.ntmps88
  go_wp2
  go_loopg [2, 3] 0 (fun _ s2 s3 wr => s2 = .int .i64 0 ∧ s3 = .int .i64 (-1) ∧ wr = w)
  case atStart => exact ⟨rfl, rfl, rfl⟩
  case round =>
    obtain ⟨rfl, rfl, rfl⟩ := hrel
    go_wp2
    go_end0
    exact ⟨rfl, rfl⟩
set_option maxRecDepth 100000 in
set_option maxHeartbeats 400000 in
theorem partNodeParts_any (v : Value) (R : List Prt) (B u : Nat) (w : World) (h : Lk w B v R u) (hu : u ≤ w.heap.size) (hn : R.length ≤ 100000) :
    Calls Try.prog 74 #[v] w (RetOwn 63 2 encPrt R.reverse w) := by
  obtain ⟨i0, hi, hz0, hz1, hz2⟩ := info_parts Try.infoPart
  go_enter Try.func74, Try.ntmps74
  go_wp2
  go_loopg [0, 3] R.length (fun k v out wr => ∃ (dn rest : List Prt) (u' : Nat), R = dn ++ rest ∧ rest.length = k ∧ u' ≤ w.heap.size ∧ Lk w B v rest u' ∧ Own wr w.heap.size 63 2 encPrt out dn ∧ Below w.heap.size w wr)
  case atStart => exact ⟨[], R, u, rfl, rfl, hu, h, Own.none_, Below.refl _ _⟩
  case round =>
    obtain ⟨dn, rest, u', hR, hk, hu', hL, ho, hb⟩ := hrel
    have hsz := hb.size
    have hlenR : dn.length + rest.length = R.length := by rw [hR]; simp
    cases rest with
    | nil =>
      obtain rfl := hL
      rw [List.append_nil] at hR
      have HR := Lib.hid hR
      clear hR
      have ho' := ho
      rcases ho.2 with ⟨rfl, e2⟩ | ⟨g, cap, cur, rfl, hgB, hgg, hcap, _⟩
      · have h0 : dn = [] := List.length_eq_zero_iff.1 e2
        clear ho
        go_wp2_with fail
        refine (reverseNil_any none 0 wr).mono ?_
        rintro e w' ⟨rfl, rfl⟩
        go_wp2
        rw [HR.out, h0]
        rw [h0] at ho'
        exact bodyPost_ret (v := .slice none 0 0) (by simp [results, Try.results74, go_sem]) rfl ⟨none, 0, rfl, Nat.le_refl _, ho', hb⟩
      · clear ho
        have hdn : dn.length ≤ 1000000 := by simp at hlenR; omega
        clear hlenR
        go_wp2_with fail
        refine (reversePart_any g cap dn.length dn w.heap.size wr ho' hdn).mono ?_
        rintro e w' ⟨rfl, ho2, hg2⟩
        go_wp2
        rw [HR.out]
        exact bodyPost_ret (v := .slice (some ⟨g, 0, none⟩) dn.length cap) (by simp [results, Try.results74, go_sem]) rfl ⟨some ⟨g, 0, none⟩, cap, by simp, by simpa using hcap, by simpa using ho2, hb.grown hg2 hsz (fun g' e => by cases e; exact hgB)⟩
    | cons p ps =>
      obtain ⟨b, v', rfl, hB1, hb2, hBk, _, hL2⟩ := hL
      obtain ⟨q0, q1, q2⟩ := ((hBk.below hb (by omega))).c3
      have hrow := ho.lt
      have hdl : dn.length ≤ 100000 := by omega
      have HR := Lib.hid hR
      clear hR
      go_wp2_with (at_builtin; refine wp_appS rfl _ _ 43 rfl w.heap.size 63 i0 (.agg #[.int .i64 0, .int .i64 0]) 2 16 Try.underlying43 hi hz0 hz1 hz2 rfl (by decide) encPrt_len one_prt _ _ [p] rfl (ho.alloc _) _ 1 1 rfl (Sl.one _ p _ _ rfl) (by intro e; cases e) (by unfold maxLen; omega) (by omega) (by simp; omega) ?_; intro v2 w2 ho2 hg2; have hg3 : (wr.alloc (.cells #[.int .i64 p.c, .int .i64 p.m] 63)).grownBy w2 u3.ownBlock := hg2; have hbl2 : Below w.heap.size w w2 := (hb.alloc hsz _).grown hg3 (by simp; omega) (fun g e => (hrow _ e).1); have q3 : w2.cell? ⟨b, 2, none⟩ = some v' := (hBk.below hbl2 (by omega)).2 2 _ rfl)
      go_roundg ps.length
      case measure => simp at hk; omega
      case rel => exact ⟨dn ++ [p], ps, b, by rw [HR.out]; simp, rfl, by omega, hL2, ho2, hbl2⟩
end Go.Proofs.Ytkendoffknjpiaa
