/- The program's BoxValid, its linked walls, free. (Round B) -/
import Derived.Test.YtmfhfebakdkkdaaImpD
import Derived.Test.YtmfhfebakdkkdaaSpecH
import Derived.Deep.LoopGhost
import Derived.LoopN
namespace Go.Proofs.Ytmfhfebakdkkdaa
open Go.ChangeShapes Go.WideShapes Go.ChangeAt Go.RowKit Go.Shelf
attribute [local go_sem] Oper.semAt_some
theorem bxOk_no {b : Bx} (h : ¬ (b.lo.x ≤ b.hi.x ∧ b.lo.y ≤ b.hi.y)) : bxOk b = false := by
  rw [Bool.eq_false_iff]
  intro h2
  exact h (bxOk_ord h2)
theorem bxOk_split {b : Bx} (h : b.lo.x ≤ b.hi.x ∧ b.lo.y ≤ b.hi.y) : bxOk b = (vOk b.lo && vOk b.hi) := by
  simp [bxOk, h.1, h.2]
theorem axis0 (w : World) (a b c d : Int) : (Instr.index 128 (.agg #[.int .i64 a, .int .i64 b, .int .i64 c, .int .i64 d]) (.int .i64 0)).run Try.prog w = .ok (.agg #[.int .i64 a, .int .i64 b]) w := by kernel_rfl
theorem axis1 (w : World) (a b c d : Int) : (Instr.index 128 (.agg #[.int .i64 a, .int .i64 b, .int .i64 c, .int .i64 d]) (.int .i64 1)).run Try.prog w = .ok (.agg #[.int .i64 c, .int .i64 d]) w := by kernel_rfl
theorem rnds_world {m : Nat} {P : Program} {c : Code} {Q : Exit → Act → World → Prop} {a : Act} {w0 : World} (Fw : World → Prop) (h0 : Fw w0) (h : ∀ w1, Fw w1 → Code.rounds P c Q m a w1) : Code.rounds P c Q m a w0 := h w0 h0
set_option maxRecDepth 100000 in
set_option maxHeartbeats 2000000 in
theorem implBoxValid_any (b : Bx) (w : World) : Calls Try.prog 74 #[.agg #[.int .i64 b.lo.x, .int .i64 b.lo.y, .int .i64 b.hi.x, .int .i64 b.hi.y]] w fun e w' => e = .returned (.bool (bxOk b)) ∧ Below w.heap.size w w' := by
  have hx0 := axis0
  have hx1 := axis1
  go_enter Try.func74, Try.ntmps74
  go_wp2_with fail
  refine (axes_any b _).mono ?_
  rintro e w1 ⟨rfl, hb1⟩
  have A1 : Bk w1 w.heap.size 27 #[.int .i64 b.lo.x, .int .i64 b.lo.y, .int .i64 b.hi.x, .int .i64 b.hi.y] := Bk.later (by (repeat (first | (with_reducible assumption) | (with_reducible exact Bk.new _ _ _ (by simp; done)) | (with_reducible refine Bk.alloc ?_ _) | (with_reducible refine Bk.drew ?_) | (with_reducible refine Bk.drewN ?_ _) | (with_reducible apply Bk.set') | (with_reducible refine Bk.far ?_ (by first | omega | (simp; done) | (simp; omega)) _) | (with_reducible refine Bk.later ?_ (by assumption)) | (with_reducible refine Bk.grown ?_ (by assumption) (by first | omega | (simp; done) | (simp; omega))) | (exact SetTo.mk (by with_reducible rfl)) | (exact SetTo.mk (by simp))))) hb1
  have d1 : Below w.heap.size w w1 := by (repeat (first | (with_reducible exact Below.refl _ _) | (with_reducible refine below_alloc ?_ _) | (with_reducible refine below_setCell ?_ ?_ _; (simp <;> omega)) | (with_reducible refine below_drew ?_) | (with_reducible refine below_drewN ?_ _) | (with_reducible refine below_after ?_ (by assumption))))
  clear hb1
  have z1 := A1.lt
  by_cases h1 : b.lo.x ≤ b.hi.x
  · have h1' : ¬ b.hi.x < b.lo.x := by omega
    by_cases h2 : b.lo.y ≤ b.hi.y
    · have h2' : ¬ b.hi.y < b.lo.y := by omega
      have HB := Lib.hid (bxOk_split ⟨h1, h2⟩)
      obtain ⟨⟨a0, a1, a2, a3⟩, af⟩ := A1.c4
      go_wp2
      refine wp_loop_rounds 3 ?_
      rw [rounds_succ]
      go_wp2
      rw [rounds_succ]
      go_wp2
      rw [rounds_succ]
      cases hv : vOk b.lo
      · go_wp2_with (go_at_call 75; refine (implVecOk_any b.lo _).mono ?_; rw [hv]; rintro e w2 ⟨rfl, hb2⟩)
        go_ret
        exact ⟨ret_bool (by rw [HB.out, hv]; rfl), by (repeat (first | (with_reducible assumption) | (with_reducible exact Below.refl _ _) | (with_reducible refine below_alloc ?_ _) | (with_reducible refine below_setCell ?_ ?_ _; (simp <;> omega)) | (with_reducible refine below_drew ?_) | (with_reducible refine below_drewN ?_ _) | (with_reducible refine below_after ?_ (by assumption))))⟩
      · go_wp2_with fail
        refine (implVecOk_any b.lo _).mono ?_
        rw [hv]
        rintro e w2 ⟨rfl, hb2⟩
        have A2 : Bk w2 w.heap.size 27 #[.int .i64 b.lo.x, .int .i64 b.lo.y, .int .i64 b.hi.x, .int .i64 b.hi.y] := Bk.later (by (repeat (first | (with_reducible assumption) | (with_reducible exact Bk.new _ _ _ (by simp; done)) | (with_reducible refine Bk.alloc ?_ _) | (with_reducible refine Bk.drew ?_) | (with_reducible refine Bk.drewN ?_ _) | (with_reducible apply Bk.set') | (with_reducible refine Bk.far ?_ (by first | omega | (simp; done) | (simp; omega)) _) | (with_reducible refine Bk.later ?_ (by assumption)) | (with_reducible refine Bk.grown ?_ (by assumption) (by first | omega | (simp; done) | (simp; omega))) | (exact SetTo.mk (by with_reducible rfl)) | (exact SetTo.mk (by simp))))) hb2
        obtain ⟨⟨p0, p1, p2, p3⟩, pf⟩ := A2.c4
        go_wp2_with (go_at_call 75; refine (implVecOk_any b.hi _).mono ?_; rintro e w3 ⟨rfl, hb3⟩)
        go_ret
        exact ⟨ret_bool (by rw [HB.out, hv]; simp), by (repeat (first | (with_reducible assumption) | (with_reducible exact Below.refl _ _) | (with_reducible refine below_alloc ?_ _) | (with_reducible refine below_setCell ?_ ?_ _; (simp <;> omega)) | (with_reducible refine below_drew ?_) | (with_reducible refine below_drewN ?_ _) | (with_reducible refine below_after ?_ (by assumption))))⟩
    · have HB := Lib.hid (bxOk_no (b := b) (fun h => h2 h.2))
      have h2' : b.hi.y < b.lo.y := by omega
      obtain ⟨⟨a0, a1, a2, a3⟩, af⟩ := A1.c4
      go_wp2
      refine wp_loop_rounds 3 ?_
      rw [rounds_succ]
      go_wp2
      rw [rounds_succ]
      go_wp2
      go_ret
      exact ⟨ret_bool (by rw [HB.out]), by (repeat (first | (with_reducible assumption) | (with_reducible exact Below.refl _ _) | (with_reducible refine below_alloc ?_ _) | (with_reducible refine below_setCell ?_ ?_ _; (simp <;> omega)) | (with_reducible refine below_drew ?_) | (with_reducible refine below_drewN ?_ _) | (with_reducible refine below_after ?_ (by assumption))))⟩
  · have HB := Lib.hid (bxOk_no (b := b) (fun h => h1 h.1))
    have h1' : b.hi.x < b.lo.x := by omega
    obtain ⟨⟨a0, a1, a2, a3⟩, af⟩ := A1.c4
    go_wp2
    refine wp_loop_rounds 3 ?_
    rw [rounds_succ]
    go_wp2
    go_ret
    exact ⟨ret_bool (by rw [HB.out]), by (repeat (first | (with_reducible assumption) | (with_reducible exact Below.refl _ _) | (with_reducible refine below_alloc ?_ _) | (with_reducible refine below_setCell ?_ ?_ _; (simp <;> omega)) | (with_reducible refine below_drew ?_) | (with_reducible refine below_drewN ?_ _) | (with_reducible refine below_after ?_ (by assumption))))⟩
/-! ### linked: the walls, the last one first -/
def bw (l : List Bx) (k : Nat) : Bx := (l[l.length - 1 - k]?).getD ⟨⟨0, 0⟩, ⟨0, 0⟩⟩
theorem bw_at {l : List Bx} {k m : Nat} {x : Bx} (hm : l.length - 1 - k = m) (hx : l[m]? = some x) : bw l k = x := by unfold bw; rw [hm, hx]; rfl
set_option maxRecDepth 100000 in
set_option maxHeartbeats 2000000 in
theorem backward1_in (A : Option Addr) (n c : Nat) (l : List Bx) (w0 : World) (hs : Sl w0 4 encBx A n l) (hn : (n : Nat) ≤ 9223372036854775807) (g : Nat) (L : Nat) (J Jx : Nat → World → Prop) (W : World)
    (hY : ∀ k W1, k < n → J k W1 → YieldAt Fence.wide 1 Try.prog L #[.int .i64 ((n : Int) - 1 - k), .agg #[.int .i64 (bw l k).lo.x, .int .i64 (bw l k).lo.y, .int .i64 (bw l k).hi.x, .int .i64 (bw l k).hi.y]] W1 fun e W' => (e = .returned (.bool true) ∧ J (k + 1) W' ∧ (W'.heap[g]? = W1.heap[g]? ∧ Below w0.heap.size W1 W')) ∨ (e = .returned (.bool false) ∧ Jx k W'))
    (hg : Bk W g 25 #[.slice A n c]) (hb : Below w0.heap.size w0 W) (h0 : J 0 W) :
    CallsIn Fence.wide 2 Try.prog 155 #[.func (.yield L) #[] #[], .pointer (some ⟨g, 0, none⟩)] W fun e W' => (∃ v, e = .returned v) ∧ (J n W' ∨ ∃ k, k < n ∧ Jx k W') := by
  obtain ⟨g0, gf⟩ := hg.c1
  refine callsIn_of_wp Try.func155 rfl trivial ?_ rfl
  simp only [Try.ntmps155, List.size_toArray, List.length_cons, List.length_nil, Nat.reduceAdd, Nat.reduceSub, Array.replicate_succ, Array.replicate_zero, List.push_toArray, List.append_toArray, List.nil_append, List.cons_append]
  gi_wp2
  clear g0 gf
  gi_loopw [3] (fun i wr => ∃ k : Nat, k ≤ n ∧ i = .int .i64 ((n : Int) - 1 - k) ∧ J k wr ∧ Bk wr g 25 #[.slice A n c] ∧ Below w0.heap.size w0 wr) (fun i _ => (intOf i + 1).toNat)
  case atStart => exact ⟨0, Nat.zero_le _, by simp, h0, hg, hb⟩
  case round =>
    obtain ⟨k, hk, hi, hj, hG, hB⟩ := hrel
    obtain ⟨g0, gf⟩ := hG.c1
    by_cases hlt : k < n
    · obtain ⟨m, hm⟩ : ∃ m : Nat, n - 1 - k = m := ⟨_, rfl⟩
      have em : (n : Int) - 1 - k = (m : Int) := by omega
      rw [em] at hi
      subst hi
      obtain ⟨b, off, x, rfl, hbl, hx, hc⟩ := (hs.below hB).at_ (show m < n by omega)
      have q0 : wr.cell? ⟨b, off + m * 4, none⟩ = some (.int .i64 x.lo.x) := hc 0 _ rfl
      have q1 : wr.cell? ⟨b, off + m * 4 + 1, none⟩ = some (.int .i64 x.lo.y) := hc 1 _ rfl
      have q2 : wr.cell? ⟨b, off + m * 4 + 2, none⟩ = some (.int .i64 x.hi.x) := hc 2 _ rfl
      have q3 : wr.cell? ⟨b, off + m * 4 + 3, none⟩ = some (.int .i64 x.hi.y) := hc 3 _ rfl
      have hbw : bw l k = x := bw_at (by rw [hs.len]; exact hm) hx
      have hYk := hY k wr hlt hj
      rw [em, hbw] at hYk
      obtain ⟨fn, tmps, assign, body, hy, hR⟩ := hYk
      have hmn : (m : Int) < n := by omega
      have HM := Lib.hid hm
      have EM := Lib.hid em
      clear hY hs hc hx hbw hm em
      gi_wp2
      refine hR.mono ?_
      clear hR hy
      rintro e W' (⟨rfl, hj', hk1, hk2⟩ | ⟨rfl, hjx⟩)
      · gi_wp2
        go_roundw
        case rel => exact ⟨k + 1, by omega, by have := EM.out; congr 1; omega, hj', hk1.trans hG, hB.trans hk2⟩
        case measure => simp [intOf]
      · gi_wp2
        refine bodyPost_ret (results_none rfl _ _ _) rfl ?_
        exact ⟨⟨_, rfl⟩, .inr ⟨k, hlt, hjx⟩⟩
    · have hkn : k = n := by omega
      subst hkn
      have e1 : (k : Int) - 1 - k = -1 := by omega
      rw [e1] at hi
      subst hi
      gi_wp2
      go_end0
      exact ⟨⟨_, rfl⟩, .inl hj⟩
/-- Linked walls: the nodes lie ever lower, none below B. -/
def Lw (w : World) (B : Nat) : Value → List Bx → Nat → Prop
  | v, [], _ => v = .pointer none
  | v, b :: bs, u => ∃ g v', v = .pointer (some ⟨g, 0, none⟩) ∧ B ≤ g ∧ g < u ∧ Bk w g 137 #[.int .i64 b.lo.x, .int .i64 b.lo.y, .int .i64 b.hi.x, .int .i64 b.hi.y, v'] ∧ Lw w B v' bs g
theorem Lw.same {w w' : World} {B : Nat} : ∀ {l : List Bx} {v : Value} {u : Nat}, Lw w B v l u → (∀ g, B ≤ g → g < u → w'.heap[g]? = w.heap[g]?) → Lw w' B v l u
  | [], _, _, h, _ => h
  | _ :: _, _, _, ⟨g, v', e, h1, h2, h3, h4⟩, hs => ⟨g, v', e, h1, h2, (hs g h1 h2).trans h3, h4.same fun k k1 k2 => hs k k1 (by omega)⟩
theorem Lw.mono {w : World} {B u u' : Nat} (hu : u ≤ u') : ∀ {l : List Bx} {v : Value}, Lw w B v l u → Lw w B v l u'
  | [], _, h => h
  | _ :: _, _, ⟨g, v', e, h1, h2, h3, h4⟩ => ⟨g, v', e, h1, by omega, h3, h4⟩
theorem Lw.low {w : World} {B B' : Nat} (hB : B' ≤ B) : ∀ {l : List Bx} {v : Value} {u : Nat}, Lw w B v l u → Lw w B' v l u
  | [], _, _, h => h
  | _ :: _, _, _, ⟨g, v', e, h1, h2, h3, h4⟩ => ⟨g, v', e, by omega, h2, h3, h4.low hB⟩
theorem Lw.below {w w' : World} {B : Nat} {l : List Bx} {v : Value} {u : Nat} (h : Lw w B v l u) (hb : Below w.heap.size w w') (hu : u ≤ w.heap.size) : Lw w' B v l u := h.same fun g _ h2 => hb.block g (by omega)
theorem Lw.ptr {w : World} {B : Nat} {l : List Bx} {v : Value} {u : Nat} (h : Lw w B v l u) : ∃ p, v = .pointer p := by
  cases l with
  | nil => exact ⟨none, h⟩
  | cons b bs => obtain ⟨g, v', e, _⟩ := h; exact ⟨_, e⟩
theorem implBackward_any (A : Option Addr) (n c : Nat) (w : World) : Calls Try.prog 140 #[.slice A n c] w fun e w' => e = .returned (.func (.func 155) #[] #[.pointer (some ⟨w.heap.size, 0, none⟩)]) ∧ w' = w.alloc (.cells #[.slice A n c] 25) := by
  go_enter Try.func140, Try.ntmps140
  go_wp2
  go_ret
  exact ⟨rfl, rfl⟩
def lnkI (l : List Bx) (s B : Nat) (w : World) (k : Nat) (A : World) : Prop := k ≤ l.length ∧ Below w.heap.size w A ∧ ∃ p, Bk A s 134 #[.pointer p] ∧ Lw A B (.pointer p) (l.drop (l.length - k)) A.heap.size
theorem drop_bw {l : List Bx} {k : Nat} (hk : k < l.length) : l.drop (l.length - (k + 1)) = bw l k :: l.drop (l.length - k) := by
  have e : l.length - (k + 1) = l.length - 1 - k := by omega
  rw [e, List.drop_eq_getElem_cons (by omega), show l.length - 1 - k + 1 = l.length - k by omega, bw_at rfl (List.getElem?_eq_getElem _)]
set_option maxRecDepth 100000 in
set_option maxHeartbeats 2000000 in
theorem implLinked_any (A : Option Addr) (c : Nat) (l : List Bx) (w : World) (hs : Sl w 4 encBx A l.length l) (hn : (l.length : Nat) ≤ 9223372036854775807) :
    Calls Try.prog 119 #[.slice A l.length c] w fun e w' => ∃ p, e = .returned (.pointer p) ∧ Lw w' w.heap.size (.pointer p) l w'.heap.size ∧ Below w.heap.size w w' := by
  refine (callsIn_wide (n := 3)).1 ?_
  refine callsIn_of_wp_marks Try.func119 rfl trivial ?_ rfl
  simp only [Try.ntmps119, List.size_toArray, List.length_cons, List.length_nil, Nat.reduceAdd, Nat.reduceSub, Array.replicate_succ, Array.replicate_zero, List.push_toArray, List.append_toArray, List.nil_append, List.cons_append]
  gi_wp2_with (refine ⟨trivial, ?_⟩; gi_at_call 140; refine (callsIn_wide.2 (implBackward_any _ _ _ _)).mono ?_; rintro e w' ⟨rfl, rfl⟩)
  obtain ⟨W, hW⟩ : ∃ W, (w.alloc (.cells #[.pointer none] 134)).alloc (.cells #[.slice A l.length c] 25) = W := ⟨_, rfl⟩
  have hF : Bk W w.heap.size 134 #[.pointer none] := by rw [← hW]; (repeat (first | (with_reducible assumption) | (with_reducible exact Bk.new _ _ _ (by simp; done)) | (with_reducible refine Bk.alloc ?_ _) | (with_reducible refine Bk.drew ?_) | (with_reducible refine Bk.drewN ?_ _) | (with_reducible apply Bk.set') | (with_reducible refine Bk.far ?_ (by first | omega | (simp; done) | (simp; omega)) _) | (with_reducible refine Bk.later ?_ (by assumption)) | (with_reducible refine Bk.grown ?_ (by assumption) (by first | omega | (simp; done) | (simp; omega))) | (exact SetTo.mk (by with_reducible rfl)) | (exact SetTo.mk (by simp))))
  have hG : Bk W (w.heap.size + 1) 25 #[.slice A l.length c] := by rw [← hW]; (repeat (first | (with_reducible assumption) | (with_reducible exact Bk.new _ _ _ (by simp; done)) | (with_reducible refine Bk.alloc ?_ _) | (with_reducible refine Bk.drew ?_) | (with_reducible refine Bk.drewN ?_ _) | (with_reducible apply Bk.set') | (with_reducible refine Bk.far ?_ (by first | omega | (simp; done) | (simp; omega)) _) | (with_reducible refine Bk.later ?_ (by assumption)) | (with_reducible refine Bk.grown ?_ (by assumption) (by first | omega | (simp; done) | (simp; omega))) | (exact SetTo.mk (by with_reducible rfl)) | (exact SetTo.mk (by simp))))
  have hB : Below w.heap.size w W := by rw [← hW]; (repeat (first | (with_reducible exact Below.refl _ _) | (with_reducible refine below_alloc ?_ _) | (with_reducible refine below_setCell ?_ ?_ _; (simp <;> omega)) | (with_reducible refine below_drew ?_) | (with_reducible refine below_drewN ?_ _) | (with_reducible refine below_after ?_ (by assumption))))
  have hz : W.heap.size = w.heap.size + 2 := by rw [← hW]; simp
  rw [hW]
  clear hW
  refine wp_rfun (gf := 155) (lb := #[.pointer (some ⟨w.heap.size + 1, 0, none⟩)]) rfl (enters_of Try.func155 (by kernel_rfl) rfl) (enc := fun k => #[.int .i64 ((l.length : Int) - 1 - k), .agg #[.int .i64 (bw l k).lo.x, .int .i64 (bw l k).lo.y, .int .i64 (bw l k).hi.x, .int .i64 (bw l k).hi.y]]) (N := l.length)
    (Kp := fun _ A A' => A'.heap[w.heap.size + 1]? = A.heap[w.heap.size + 1]? ∧ Below w.heap.size A A') (Ab := fun _ A A' => A' = A)
    (fun L J Jx W' hW' hJ hY h0 => by simpa using backward1_in A l.length c l w hs hn (w.heap.size + 1) L J Jx W' hY (hG.later hW') (hB.trans (hW'.mono (by omega))) h0)
    (fun B X Y _ e => by rw [e]; exact Below.refl _ _) (fun B X Y Z h k => ⟨k.1.trans h.1, h.2.trans k.2⟩) (fun X o => ⟨World.putObj_heap_other (by omega), below_putObj (by omega) o⟩) (fun k => rfl)
    (lnkI l w.heap.size (w.heap.size + 4) w) (fun _ _ => False) ?hI ?hIo ?hIa ?hIxo ?h0
    (fun k a' A' => ∃ B, w.heap.size + 4 ≤ B ∧ Bk A' B 27 #[.int .i64 (bw l k).lo.x, .int .i64 (bw l k).lo.y, .int .i64 (bw l k).hi.x, .int .i64 (bw l k).hi.y] ∧ a' = { tmps := #[.slice A l.length c, undef, .pointer none, .pointer (some ⟨w.heap.size, 0, none⟩), undef, .pointer (some ⟨B, 0, none⟩), .slice A l.length c, .func (.func 155) #[] #[.pointer (some ⟨w.heap.size + 1, 0, none⟩)], .int .i64 ((l.length : Int) - 1 - k), .agg #[.int .i64 (bw l k).lo.x, .int .i64 (bw l k).lo.y, .int .i64 (bw l k).hi.x, .int .i64 (bw l k).hi.y], undef, undef, undef, undef, undef], defers := [] }) ?hAxo ?assign ?body ?done ?stop
  case hI => rintro k X Y h e; subst e; exact h
  case hIo =>
    rintro k X b o hb1 hb2 ⟨h1, h2, p, h3, h4⟩
    exact ⟨h1, h2.trans (below_putObj (by omega) o), p, h3.putObj (by omega) o, by rw [World.putObj_size]; exact h4.same fun g h5 _ => World.putObj_heap_other (by omega)⟩
  case hIa =>
    rintro X o ⟨h1, h2, p, h3, h4⟩
    exact ⟨h1, below_alloc h2 o, p, h3.alloc o, (h4.below (below_alloc (Below.refl _ _) o) (Nat.le_refl _)).mono (by simp)⟩
  case hIxo => rintro k X b o _ _ h; exact h
  case h0 => exact ⟨Nat.zero_le _, hB, none, hF, by rw [Nat.sub_zero, List.drop_length]; rfl⟩
  case hAxo =>
    rintro k a' X b o hb1 hb2 ⟨B, hB, hv, rfl⟩
    exact ⟨B, hB, hv.putObj (by omega) o, rfl⟩
  case assign =>
    rintro L k V K hzV h hK
    gi_wp2
    obtain ⟨h1, h2, p, h3, h4⟩ := h
    exact hK _ _ ((KeepsOthers.alloc _ _).from _) ⟨Below.heap_alloc _ _ _ (by omega), (Below.refl _ V).alloc (by omega) _⟩ ⟨h1, below_alloc h2 _, p, h3.alloc _, (h4.below (below_alloc (Below.refl _ _) _) (Nat.le_refl _)).mono (by simp)⟩ ⟨V.heap.size, by omega, Bk.new _ _ _ rfl, rfl⟩
  case body =>
    rintro L k a' V hzV ⟨h1, h2, p, h3, h4⟩ ⟨B, hB, hv, rfl⟩ hk
    have z3 := h3.lt
    have zB := hv.lt
    obtain ⟨d0, df⟩ := h3.c1
    obtain ⟨⟨x0, x1, x2, x3⟩, xf⟩ := hv.c4
    gi_wp2
    refine ⟨((KeepsOthers.setCell _ _ _).trans (KeepsOthers.alloc _ _)).from _, ⟨?_, ?_⟩, by omega, ?_, some ⟨V.heap.size, 0, none⟩, ?_, ?_⟩
    · exact (Below.heap_alloc _ _ _ (by simp; omega)).trans (Below.heap_setCell _ _ _ _ (by simp))
    · exact ((Below.refl _ V).setCell (p := ⟨w.heap.size, 0, none⟩) (Nat.le_refl _) _).alloc (by simp; omega) _
    · exact below_alloc (h2.setCell (p := ⟨w.heap.size, 0, none⟩) (Nat.le_refl _) _) _
    · exact (h3.set' ⟨by simp⟩).alloc _
    · rw [drop_bw hk]
      refine ⟨V.heap.size, .pointer p, rfl, by omega, by simp, Bk.new _ _ _ (by simp), ?_⟩
      refine h4.same fun g h5 h6 => ?_
      exact (Below.heap_alloc _ _ _ (by simpa using h6)).trans (Below.heap_setCell _ _ _ _ (by simp; omega))
  case done =>
    rintro V hzV ⟨h1, h2, p, h3, h4⟩ hK
    obtain ⟨d0, df⟩ := h3.c1
    gi_wp2
    refine ⟨by simp, .inl ⟨_, _, rfl, run_takeDeferred hK, ?_⟩⟩
    refine ⟨_, (by simp [results, Try.results119, go_sem]), p, rfl, ?_, h2.trans (below_putObj (by omega) _)⟩
    rw [Nat.sub_self, List.drop_zero] at h4
    rw [World.putObj_size]
    exact (h4.same fun g h5 _ => World.putObj_heap_other (by omega)).low (by omega)
  case stop => rintro k V _ _ h _; exact h.elim
theorem free_no {l : Lev} {v : V2} {dn rest : List Bx} {b : Bx} (e : l.walls = dn ++ b :: rest) (h : touchB b v 500 = true) : freeB l v = false := by
  unfold freeB
  rw [e, List.all_append, List.all_cons, h]
  simp
theorem free_yes {l : Lev} {v : V2} (h : ∀ b ∈ l.walls, touchB b v 500 = false) : freeB l v = true := by
  unfold freeB
  rw [List.all_eq_true]
  intro b hb
  rw [h b hb]
  rfl
set_option maxRecDepth 100000 in
set_option maxHeartbeats 2000000 in
theorem implFree_any (l : Lev) (v : V2) (A A' : Option Addr) (c c' : Nat) (w : World) (h : Sl w 4 encBx A l.walls.length l.walls) (hn : (l.walls.length : Nat) ≤ 9223372036854775807) (hw : boxesB l.walls = true) (hv : bdV v) :
    Calls Try.prog 78 #[.agg #[.int .i64 l.id, .int .i64 l.ticks, .int .i64 l.start.x, .int .i64 l.start.y, .slice A l.walls.length c, .slice A' l.gates.length c', .int .i64 l.fin.lo.x, .int .i64 l.fin.lo.y, .int .i64 l.fin.hi.x, .int .i64 l.fin.hi.y, .int .i64 l.bans], .agg #[.int .i64 v.x, .int .i64 v.y]] w fun e w' => e = .returned (.bool (freeB l v)) ∧ Below w.heap.size w w' := by
  go_enter Try.func78, Try.ntmps78
  go_wp2_with fail
  refine (implLinked_any A c l.walls _ (h.below (by (repeat (first | (with_reducible exact Below.refl _ _) | (with_reducible refine below_alloc ?_ _) | (with_reducible refine below_setCell ?_ ?_ _; (simp <;> omega)) | (with_reducible refine below_drew ?_) | (with_reducible refine below_drewN ?_ _) | (with_reducible refine below_after ?_ (by assumption)))))) hn).mono ?_
  rintro e w1 ⟨p, rfl, hL1, hb1⟩
  have V1 : Bk w1 (w.heap.size + 1) 24 #[.int .i64 v.x, .int .i64 v.y] := Bk.later (by (repeat (first | (with_reducible assumption) | (with_reducible exact Bk.new _ _ _ (by simp; done)) | (with_reducible refine Bk.alloc ?_ _) | (with_reducible refine Bk.drew ?_) | (with_reducible refine Bk.drewN ?_ _) | (with_reducible apply Bk.set') | (with_reducible refine Bk.far ?_ (by first | omega | (simp; done) | (simp; omega)) _) | (with_reducible refine Bk.later ?_ (by assumption)) | (with_reducible refine Bk.grown ?_ (by assumption) (by first | omega | (simp; done) | (simp; omega))) | (exact SetTo.mk (by with_reducible rfl)) | (exact SetTo.mk (by simp))))) hb1
  have d1 : Below w.heap.size w w1 := by (repeat (first | (with_reducible exact Below.refl _ _) | (with_reducible refine below_alloc ?_ _) | (with_reducible refine below_setCell ?_ ?_ _; (simp <;> omega)) | (with_reducible refine below_drew ?_) | (with_reducible refine below_drewN ?_ _) | (with_reducible refine below_after ?_ (by assumption))))
  clear hb1
  go_wp2
  go_loopg [5] l.walls.length (fun k q wr => ∃ (dn rest : List Bx) (B u : Nat), l.walls = dn ++ rest ∧ rest.length = k ∧ (∀ b ∈ dn, touchB b v 500 = false) ∧ Lw wr B q rest u ∧ u ≤ wr.heap.size ∧ Bk wr (w.heap.size + 1) 24 #[.int .i64 v.x, .int .i64 v.y] ∧ Below w.heap.size w wr)
  case atStart => exact ⟨[], l.walls, _, _, rfl, rfl, (fun b hb => by cases hb), hL1, Nat.le_refl _, V1, d1⟩
  case round =>
    obtain ⟨dn, rest, B, u, he, hk, hno, hL, hu, hV, hd⟩ := hrel
    cases rest with
    | nil =>
      obtain rfl := hL
      rw [List.append_nil] at he
      have HF := Lib.hid (free_yes (l := l) (v := v) (fun b hb => hno b (he ▸ hb)))
      clear he hno
      go_wp2
      go_ret
      exact ⟨ret_bool HF.out.symm, by (repeat (first | (with_reducible assumption) | (with_reducible exact Below.refl _ _) | (with_reducible refine below_alloc ?_ _) | (with_reducible refine below_setCell ?_ ?_ _; (simp <;> omega)) | (with_reducible refine below_drew ?_) | (with_reducible refine below_drewN ?_ _) | (with_reducible refine below_after ?_ (by assumption))))⟩
    | cons b bs =>
      obtain ⟨g, v', rfl, hBg, hgu, hG, hL2⟩ := hL
      have hbm : b ∈ l.walls := by rw [he]; simp
      have hbk : bxOk b = true := List.all_eq_true.1 hw b hbm
      have zV := hV.lt
      have zG := hG.lt
      obtain ⟨p', rfl⟩ := hL2.ptr
      obtain ⟨g0, g1, g2, g3, g4⟩ : wr.cell? ⟨g, 0, none⟩ = some (.int .i64 b.lo.x) ∧ wr.cell? ⟨g, 1, none⟩ = some (.int .i64 b.lo.y) ∧ wr.cell? ⟨g, 2, none⟩ = some (.int .i64 b.hi.x) ∧ wr.cell? ⟨g, 3, none⟩ = some (.int .i64 b.hi.y) ∧ wr.cell? ⟨g, 4, none⟩ = some (.pointer p') := ⟨hG.cell 0, hG.cell 1, hG.cell 2, hG.cell 3, hG.cell 4⟩
      obtain ⟨⟨p0, p1⟩, pf⟩ := hV.c2
      have HE := Lib.hid he
      have HNo := Lib.hid hno
      clear he hno hbm
      go_wp2
      go_still_tail 5, (by kernel_rfl)
      change wpList _ _ _ _ _ wr.drew
      go_wp2_with fail
      refine (touches_any b v _ (bxOk_ord hbk) (bxOk_bdBx hbk) hv).mono ?_
      rintro e w2 ⟨rfl, hb2⟩
      have V2 : Bk w2 (w.heap.size + 1) 24 #[.int .i64 v.x, .int .i64 v.y] := Bk.later (by (repeat (first | (with_reducible assumption) | (with_reducible exact Bk.new _ _ _ (by simp; done)) | (with_reducible refine Bk.alloc ?_ _) | (with_reducible refine Bk.drew ?_) | (with_reducible refine Bk.drewN ?_ _) | (with_reducible apply Bk.set') | (with_reducible refine Bk.far ?_ (by first | omega | (simp; done) | (simp; omega)) _) | (with_reducible refine Bk.later ?_ (by assumption)) | (with_reducible refine Bk.grown ?_ (by assumption) (by first | omega | (simp; done) | (simp; omega))) | (exact SetTo.mk (by with_reducible rfl)) | (exact SetTo.mk (by simp))))) hb2
      have G2 := Bk.later (w := wr.drew) hG hb2
      have h4 : w2.cell? ⟨g, 4, none⟩ = some (.pointer p') := G2.cell 4
      have d2 : Below w.heap.size w w2 := by (repeat (first | (with_reducible assumption) | (with_reducible exact Below.refl _ _) | (with_reducible refine below_alloc ?_ _) | (with_reducible refine below_setCell ?_ ?_ _; (simp <;> omega)) | (with_reducible refine below_drew ?_) | (with_reducible refine below_drewN ?_ _) | (with_reducible refine below_after ?_ (by assumption))))
      have L2 : Lw w2 B (.pointer p') bs g := hL2.same fun k _ h2 => hb2.block k (by show k < wr.heap.size; omega)
      have z2 := G2.lt
      clear hb2 g0 g1 g2 g3 g4 p0 p1 pf hV hG hL2
      cases ht : touchB b v 500
      · go_wp2
        go_roundg bs.length
        case measure => simp at hk; omega
        case rel => exact ⟨dn ++ [b], bs, B, g, by rw [HE.out]; simp, rfl, (fun x hx => by rcases List.mem_append.1 hx with h | h; exact HNo.out x h; simp at h; subst h; exact ht), L2, by omega, V2, d2⟩
      · have HF := Lib.hid (free_no HE.out ht)
        go_wp2
        go_ret
        exact ⟨ret_bool HF.out.symm, by (repeat (first | (with_reducible assumption) | (with_reducible exact Below.refl _ _) | (with_reducible refine below_alloc ?_ _) | (with_reducible refine below_setCell ?_ ?_ _; (simp <;> omega)) | (with_reducible refine below_drew ?_) | (with_reducible refine below_drewN ?_ _) | (with_reducible refine below_after ?_ (by assumption))))⟩
end Go.Proofs.Ytmfhfebakdkkdaa
