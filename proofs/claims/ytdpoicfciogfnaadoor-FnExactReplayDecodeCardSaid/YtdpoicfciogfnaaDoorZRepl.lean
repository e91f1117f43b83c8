/- Lemmas: RepL Rdr. -/
import Derived.Test.YtdpoicfciogfnaaDoorZBase
import Derived.Deep.DeepMust
import Derived.Laws.BitsAllLaws
/- ReplayList: the reference's and the program's, each by its contract. -/
namespace Go.Proofs.YtdpoicfciogfnaaDoor
open Go.ChangeShapes Go.WideShapes Go.ChangeAt Go.RowKit
def repHead (r : Rep) : List Int := [r.lv, r.pl, r.sc, (r.ins.length : Int)]
def repList (r : Rep) : List Int := repHead r ++ r.ins.map code ++ r.hs
theorem replayOk_bd {r : Rep} (h : replayOk r = true) : (∀ x ∈ r.ins, inpOk x = true) ∧ r.ins.length ≤ 60 ∧ r.hs.length = r.ins.length / 5 := by
  simp only [replayOk, Bool.and_eq_true, lenB, decide_eq_true_eq] at h
  obtain ⟨_, _, _, h4, h5, _⟩ := h
  exact ⟨(inputsOkB_iff.1 h4).1, (inputsOkB_iff.1 h4).2, h5⟩
theorem head_own (w : World) (B N : Nat) (a b c d : Int) (hB : B ≤ w.heap.size) (hN : w.heap.size = N) : Own (w.alloc (.cells #[.int .i64 a, .int .i64 b, .int .i64 c, .int .i64 d] 3)) B 3 1 encInt (.slice (some ⟨N, 0, none⟩) 4 4) [a, b, c, d] := by
  subst hN
  exact World.ownsRow_lit (base := B) (size := 1) w #[.int .i64 a, .int .i64 b, .int .i64 c, .int .i64 d] 4 hB (by decide) rfl
theorem take_code {l : List Inp} {k : Nat} {x : Inp} (hx : l[k]? = some x) : (l.take (k + 1)).map code = (l.take k).map code ++ [code x] := by
  rw [List.take_add_one, hx, List.map_append]; rfl
set_option maxRecDepth 100000 in
theorem l23List_any (A A' : Option Addr) (c c' : Nat) (r : Rep) (w : World) (hr : replayOk r = true) (h : Sl w 3 encInp A r.ins.length r.ins) (h' : Sl w 1 encInt A' r.hs.length r.hs) (hA' : A' = none → c' = 0) :
    Calls Tryd.prog 78 #[.agg #[.int .i64 r.lv, .int .i64 r.pl, .int .i64 r.sc, .slice A r.ins.length c, .slice A' r.hs.length c', .int .i64 r.tag]] w (RetOwn 3 1 encInt (repList r) w) := by
  obtain ⟨hv, hn, hh⟩ := replayOk_bd hr
  have Hh := Lib.hid hh
  have hn' : r.hs.length ≤ 12 := by omega
  clear hh
  obtain ⟨i0, hi, hz0, hz1, hz2⟩ := info_parts Tryd.infoInt
  have hB0 := Blk.new w #[.int .i64 r.lv, .int .i64 r.pl, .int .i64 r.sc, .slice A r.ins.length c, .slice A' r.hs.length c', .int .i64 r.tag] 30
  have hO0 := head_own (w.alloc (.cells #[.int .i64 r.lv, .int .i64 r.pl, .int .i64 r.sc, .slice A r.ins.length c, .slice A' r.hs.length c', .int .i64 r.tag] 30)) (w.heap.size + 1) (w.heap.size + 1) r.lv r.pl r.sc r.ins.length (by simp) (by simp)
  have hB1 := hB0.alloc (.cells #[.int .i64 r.lv, .int .i64 r.pl, .int .i64 r.sc, .int .i64 r.ins.length] 3)
  have hd1 := below_alloc (below_alloc (Below.refl w.heap.size w) (.cells #[.int .i64 r.lv, .int .i64 r.pl, .int .i64 r.sc, .slice A r.ins.length c, .slice A' r.hs.length c', .int .i64 r.tag] 30)) (.cells #[.int .i64 r.lv, .int .i64 r.pl, .int .i64 r.sc, .int .i64 r.ins.length] 3)
  go_enter Tryd.func78, Tryd.ntmps78
  go_wp2
  go_loopw [3, 4] (fun v i wr => ∃ k : Nat, k ≤ r.ins.length ∧ i = .int .i64 k ∧ Own wr (w.heap.size + 1) 3 1 encInt v (repHead r ++ (r.ins.take k).map code) ∧ Blk wr w.heap.size [.int .i64 r.lv, .int .i64 r.pl, .int .i64 r.sc, .slice A r.ins.length c, .slice A' r.hs.length c', .int .i64 r.tag] ∧ Below w.heap.size w wr) (fun _ i _ => r.ins.length - (intOf i).toNat)
  case atStart => exact ⟨0, Nat.zero_le _, rfl, by rw [List.take_zero, List.map_nil, List.append_nil]; exact hO0, hB1, hd1⟩
  case round =>
    obtain ⟨k, hk, rfl, ho, hB, hb⟩ := hrel
    clear hO0 hB1 hd1 hB0
    obtain ⟨x0, x1, x2, x3, x4, x5⟩ := hB.c6
    have hzz := hB.1
    have hL : (repHead r ++ (r.ins.take k).map code).length ≤ 64 := by simp [repHead]; omega
    by_cases hlt : k < r.ins.length
    · obtain ⟨b, off, x, rfl, hbl, hx, hc⟩ := (h.below hb).at_ hlt
      have q0 : wr.cell? ⟨b, off + k * 3, none⟩ = some (.int .i64 x.s) := hc 0 _ rfl
      have q1 : wr.cell? ⟨b, off + k * 3 + 1, none⟩ = some (.int .i64 x.p) := hc 1 _ rfl
      have q2 : wr.cell? ⟨b, off + k * 3 + 2, none⟩ = some (.bool x.z) := hc 2 _ rfl
      have hxv := hv x (List.mem_of_getElem? hx)
      have Hxv := Lib.hid hxv
      have Hx := Lib.hid hx
      clear hx hc hxv hv hr h h'
      go_wp2_with (first
        | (go_at_call 62; refine (l12Code_any x _ Hxv.out).mono ?_; rintro e w1 ⟨rfl, hb1⟩)
        | (at_builtin; refine wp_appS rfl _ _ 23 rfl (w.heap.size + 1) 3 i0 (.int .i64 0) 1 8 Tryd.underlying23 hi hz0 hz1 hz2 rfl (by decide) encInt_len one_int _ _ [code x] rfl ((ho.later hb1).alloc _) _ 1 1 rfl (Sl.one _ (code x) _ _ rfl) (by intro e; cases e) (by unfold maxLen; omega) (by omega) (by have := hb1.size; simp; omega) ?_; intro v' w2 ho2 hg2))
      case roundEnd =>
        have hg3 : (w1.alloc (.cells #[.int .i64 (code x)] 3)).grownBy w2 u3.ownBlock := hg2
        have hrow := (ho.later hb1).lt
        have hBl := ((hB.later hb1).alloc (.cells #[.int .i64 (code x)] 3)).grown hg3 (by intro e; have := (hrow _ e).1; omega)
        have hbl2 : Below w.heap.size w w2 := ((hb.trans (hb1.mono (by omega))).alloc (Nat.le_trans hb.size hb1.size) _).grown hg3 (by have := hb.size; have := hb1.size; simp; omega) (fun g e => by have := (hrow _ e).1; omega)
        go_roundw
        case rel => exact ⟨k + 1, by omega, by go_num, by rw [take_code Hx.out, ← List.append_assoc]; exact ho2, hBl, hbl2⟩
        case measure => simp [intOf]; omega
    · have hs' := h'.below hb
      have hke : k = r.ins.length := by omega
      clear h h' hr hv
      go_wp2_with (at_builtin; refine wp_appS rfl _ _ 23 rfl (w.heap.size + 1) 3 i0 (.int .i64 0) 1 8 Tryd.underlying23 hi hz0 hz1 hz2 rfl (by decide) encInt_len one_int _ _ r.hs rfl ho _ _ _ rfl hs' hA' (by unfold maxLen; omega) (by omega) (by omega) ?_; intro v' w2 ho2 hg2)
      obtain ⟨A1, c1, rfl, hc1, _⟩ := ho2.form
      have hg3 : wr.grownBy w2 u3.ownBlock := hg2
      have hrow := ho.lt
      have hbl2 : Below w.heap.size w w2 := hb.grown hg3 hb.size (fun g e => by have := (hrow _ e).1; omega)
      have hlst : repHead r ++ List.map code (List.take k r.ins) ++ r.hs = repList r := by rw [hke, List.take_length]; rfl
      rw [hlst] at ho2 hc1
      have hlen : (repHead r).length + (min k r.ins.length + r.hs.length) = (repList r).length := by rw [← hlst]; simp
      exact bodyPost_ret (v := .slice A1 (repList r).length c1) (by simp [results, Tryd.results78, go_sem, hlen]) rfl ⟨A1, c1, rfl, hc1, ho2.mono (by omega), hbl2⟩
theorem Own.nil_lit (w : World) (B : Nat) (T : TypeId) (hB : B ≤ w.heap.size) : Own (w.alloc (.cells #[] T)) B T 1 encInt (.slice (some ⟨w.heap.size, 0, none⟩) 0 0) [] :=
  World.ownsRow_lit (base := B) (size := 1) w #[] 0 hB (by decide) rfl
def repL (r : Rep) : List Int := if replayOk r then repList r else []
end Go.Proofs.YtdpoicfciogfnaaDoor

/- The reader of the draws: l6Open, pick. -/
namespace Go.Proofs.YtdpoicfciogfnaaDoor
open Go.ChangeShapes Go.WideShapes Go.ChangeAt Go.RowKit
theorem xor_i64 (a b : Int) (h1 : 0 ≤ a) (h2 : a < 4611686018427387904) (h3 : 0 ≤ b) (h4 : b < 4611686018427387904) : 0 ≤ bits .xor .i64 a b := by
  obtain ⟨x, rfl⟩ := Int.eq_ofNat_of_zero_le h1
  obtain ⟨y, rfl⟩ := Int.eq_ofNat_of_zero_le h3
  have hx : x ^^^ y < 2 ^ 62 := Nat.xor_lt_two_pow (by omega) (by omega)
  have e1 : (BitVec.ofInt 64 (x : Int)).toNat = x := by
    rw [BitVec.ofInt_natCast, BitVec.toNat_ofNat]; exact Nat.mod_eq_of_lt (by omega)
  have e2 : (BitVec.ofInt 64 (y : Int)).toNat = y := by
    rw [BitVec.ofInt_natCast, BitVec.toNat_ofNat]; exact Nat.mod_eq_of_lt (by omega)
  show 0 ≤ IntKind.i64.wrap ((BitVec.ofInt 64 (x : Int) ^^^ BitVec.ofInt 64 (y : Int)).toNat : Int)
  rw [BitVec.toNat_xor, e1, e2]
  rw [IntWalk.i64_in _ (by omega)]
  omega
/-- A reader at block R: the bytes, and how many picks have been made. -/
def Rd (w : World) (R p : Nat) : Prop :=
  ∃ (A : Option Addr) (n c : Nat) (l : List Int), n ≤ 2000 ∧ w.cell? ⟨R, 0, none⟩ = some (.slice A n c) ∧ w.cell? ⟨R, 1, none⟩ = some (.int .i64 p) ∧ w.frozen? ⟨R, 1, none⟩ = false ∧ Sl w 1 encU8 A n l ∧ (∀ x ∈ l, 0 ≤ x ∧ x < 256) ∧ (0 < n → ∀ a, A = some a → a.block < R) ∧ R < w.heap.size
/-- What a pick hands back. -/
def RetPick (m : Int) (R p : Nat) (w : World) (e : Ending) (w' : World) : Prop :=
  ∃ x : Int, e = .returned (.int .i64 x) ∧ 0 ≤ x ∧ (x < m ∨ x = 0) ∧ Rd w' R (p + 1) ∧ w.grownBy w' (some R)
theorem u8_at {w : World} {b off k : Nat} {x : Int} (hc : ∀ j v, (encU8 x)[j]? = some v → w.cell? ⟨b, off + k * 1 + j, none⟩ = some v) : w.cell? ⟨b, off + k, none⟩ = some (.int .u8 x) := by
  have := hc 0 _ rfl
  simpa using this
theorem grownBy_setCell (w : World) (b o : Nat) (u : Value) : w.grownBy (w.setCell ⟨b, o, none⟩ u) (some b) :=
  ⟨rfl, rfl, rfl, by simp, fun k _ hk => heap_setCell_other w ⟨b, o, none⟩ k u (fun e => hk (by simp [e]))⟩
theorem grownBy_drewN {w w' : World} {row : Option Nat} (h : w.grownBy w' row) (n : Nat) : w.grownBy (w'.drewN n) row := ⟨h.os, h.tape, h.output, h.size, h.block⟩
theorem Rd.step {w : World} {R p : Nat} (h : Rd w R p) : Rd (w.setCell ⟨R, 1, none⟩ (.int .i64 (p + 1 : Nat))) R (p + 1) := by
  obtain ⟨A, n, c, l, hn, h0, h1, h2, hs, hl, hA, hR⟩ := h
  refine ⟨A, n, c, l, hn, ?_, ?_, ?_, ?_, hl, hA, by simpa using hR⟩
  · rw [World.cell?_setCell_other w ⟨R, 1, none⟩ ⟨R, 0, none⟩ _ (by simp)]; exact h0
  · exact World.cell?_setCell_same' w _ _ (by simp [h1])
  · simpa using h2
  · rcases Nat.eq_zero_or_pos n with hz | hz
    · subst hz
      have := hs.len
      rw [List.length_eq_zero_iff.1 this]
      exact Sl.nil
    · exact hs.grown (grownBy_setCell _ _ _ _) (fun a ha e => by have := hA hz a ha; injection e with e; omega)
theorem Rd.drewN {w : World} {R p : Nat} (h : Rd w R p) (n : Nat) : Rd (w.drewN n) R p := h
theorem mod_lt' {x m : Int} (h : 1 ≤ m) : 0 ≤ x % m ∧ x % m < m := ⟨Int.emod_nonneg _ (by omega), Int.emod_lt_of_pos _ (by omega)⟩
set_option maxRecDepth 100000 in
theorem pick_any (R p : Nat) (m : Int) (w : World) (h : Rd w R p) (hp : p ≤ 1099511627776) (hm : m ≤ 9223372036854775807) (hm0 : -9223372036854775808 ≤ m) :
    Calls Tryd.prog 72 #[.pointer (some ⟨R, 0, none⟩), .int .i64 m] w (RetPick m R p w) := by
  have HS := Lib.hid (Rd.step h)
  obtain ⟨A, n, c, l, hn, h0, h1, h2, hs, hl, hA, hR⟩ := h
  by_cases hm1 : m < 1
  · go_enter Tryd.func72, Tryd.ntmps72
    go_wp2
    go_ret
    exact ⟨0, rfl, by omega, .inr rfl, HS.out, grownBy_setCell _ _ _ _⟩
  · rcases Nat.eq_zero_or_pos n with hz | hpos
    · subst hz
      go_enter Tryd.func72, Tryd.ntmps72
      go_wp2
      go_ret
      exact ⟨0, rfl, by omega, .inr rfl, HS.out, grownBy_setCell _ _ _ _⟩
    · have hn0 : ((n : Int) == 0) = false := by rw [beq_eq_false_iff_ne]; omega
      have hs1 : Sl (w.setCell ⟨R, 1, none⟩ (.int .i64 (p + 1 : Nat))) 1 encU8 A n l := hs.grown (grownBy_setCell _ _ _ _) (fun a ha e => by have := hA hpos a ha; injection e with e; omega)
      have ec : (((p + 1 : Nat)) : Int) = (p : Int) + 1 := by omega
      rw [ec] at hs1
      by_cases hpn : p < n
      · obtain ⟨b, off, x, rfl, hbl, hx, hc⟩ := hs1.at_ hpn
        have q0 := u8_at hc
        obtain ⟨hx0, hx1⟩ := hl x (List.mem_of_getElem? hx)
        clear hs1 hc hs hx hl hA ec
        go_enter Tryd.func72, Tryd.ntmps72
        go_wp2
        go_ret
        obtain ⟨z1, z2⟩ := mod_lt' (x := x) (m := m) (by omega)
        exact ⟨x % m, rfl, z1, .inl z2, HS.out, grownBy_setCell _ _ _ _⟩
      · obtain ⟨j1, hj1, hj1n⟩ : ∃ j : Nat, (p : Int) % (n : Int) = (j : Int) ∧ j < n := ⟨p % n, by simp, Nat.mod_lt _ hpos⟩
        obtain ⟨j2, hj2, hj2n⟩ : ∃ j : Nat, ((p : Int) * 7 + 3) % (n : Int) = (j : Int) ∧ j < n := ⟨(p * 7 + 3) % n, by simp, Nat.mod_lt _ hpos⟩
        obtain ⟨q, hq, hq1⟩ : ∃ q : Nat, (p : Int) / (n : Int) = (q : Int) ∧ q ≤ p := ⟨p / n, by simp, Nat.div_le_self _ _⟩
        obtain ⟨b, off, x, rfl, hbl, hx, hc⟩ := hs1.at_ hj1n
        obtain ⟨b', off', y, e', hbl', hy, hc'⟩ := hs1.at_ hj2n
        simp only [Option.some.injEq, Addr.mk.injEq, and_true] at e'
        obtain ⟨rfl, rfl⟩ := e'
        have q0 := u8_at hc
        have q1 := u8_at hc'
        obtain ⟨hx0, hx1⟩ := hl x (List.mem_of_getElem? hx)
        obtain ⟨hy0, hy1⟩ := hl y (List.mem_of_getElem? hy)
        clear hs1 hc hc' hs hx hy hl hA ec
        go_enter Tryd.func72, Tryd.ntmps72
        go_wp2
        go_quiet (fail)
        go_wp2
        have hB := xor_i64 (x * 131 + y * 1117 + p * 29 + q * 53) ((x * 131 + y * 1117 + p * 29 + q * 53) / 64) (by omega) (by omega) (by omega) (by omega)
        go_ret
        obtain ⟨z1, z2⟩ := mod_lt' (x := bits .xor .i64 (x * 131 + y * 1117 + p * 29 + q * 53) ((x * 131 + y * 1117 + p * 29 + q * 53) / 64)) (m := m) (by omega)
        rw [← Int.tmod_eq_emod_of_nonneg hB] at z1 z2
        exact ⟨_, rfl, z1, .inl z2, HS.out.drewN _, grownBy_drewN (grownBy_setCell _ _ _ _) _⟩
/-- What l6Open hands back: a reader in a block of its own. -/
def RetOpen (w : World) (e : Ending) (w' : World) : Prop := ∃ R, e = .returned (.pointer (some ⟨R, 0, none⟩)) ∧ w.heap.size ≤ R ∧ Rd w' R 0 ∧ Below w.heap.size w w'
set_option maxRecDepth 100000 in
theorem l6Open_any (A : Option Addr) (n c : Nat) (l : List Int) (w : World) (h : Sl w 1 encU8 A n l) (hl : ∀ x ∈ l, 0 ≤ x ∧ x < 256) (hn : n ≤ 9223372036854775807) (hnc : n ≤ c) (hc : c ≤ 9223372036854775807) :
    Calls Tryd.prog 52 #[.slice A n c] w (RetOpen w) := by
  by_cases hb : 2000 < n
  · go_enter Tryd.func52, Tryd.ntmps52
    go_wp2
    go_ret
    obtain ⟨b, off, x, hA, hbl, _⟩ := h.at_ (k := 0) (by omega)
    subst hA
    refine ⟨w.heap.size, rfl, Nat.le_refl _, ⟨some ⟨b, off, none⟩, 2000, c, l.take 2000, Nat.le_refl _, by simp, by simp, by simp, ?_, fun x hx => hl x (List.mem_of_mem_take hx), ?_, by simp⟩, below_alloc (Below.refl _ _) _⟩
    · have h2 := h.below (below_alloc (Below.refl w.heap.size w) (.cells #[.slice (some ⟨b, off, none⟩) 2000 c, .int .i64 0] 105))
      refine ⟨by rw [List.length_take, h.len]; omega, fun hp => ?_⟩
      obtain ⟨b2, off2, e2, hl2, hc2⟩ := h2.2 (by omega)
      exact ⟨b2, off2, e2, hl2, fun k x hk => hc2 k x (by rw [List.getElem?_take] at hk; split at hk; exact hk; cases hk)⟩
    · intro _ a ha
      cases ha
      show b < w.heap.size
      omega
  · go_enter Tryd.func52, Tryd.ntmps52
    go_wp2
    go_ret
    refine ⟨w.heap.size, rfl, Nat.le_refl _, ⟨A, n, c, l, by omega, by simp, by simp, by simp, h.below (below_alloc (Below.refl _ _) _), hl, ?_, by simp⟩, below_alloc (Below.refl _ _) _⟩
    intro hp a ha
    obtain ⟨b, off, x, hA, hbl, _⟩ := h.at_ hp
    rw [hA] at ha
    cases ha
    show b < w.heap.size
    omega
end Go.Proofs.YtdpoicfciogfnaaDoor
