/- Lemmas: SpecI SpecJ SpecK PRun RunP. -/
import Derived.Test.YtdpoicfciogfnaaDoorZDrive
import Derived.Test.YtdpoicfciogfnaaDoorZSpec
import Derived.Test.YtdpoicfciogfnaaDoorZRepl
/- The reference's hashes and runs. -/
namespace Go.Proofs.YtdpoicfciogfnaaDoor
open Go.ChangeShapes Go.WideShapes Go.ChangeAt Go.RowKit
def int64 (n : Int) : Prop := -9223372036854775808 ≤ n ∧ n ≤ 9223372036854775807
theorem l4Step_any (h n : Int) (w : World) (h0 : 0 ≤ h) (h1 : h ≤ 1000002) (hn : int64 n) : Calls Tryd.prog 100 #[.int .i64 h, .int .i64 n] w fun e w' => e = .returned (.int .i64 (hstep h n)) ∧ w = w' := by
  obtain ⟨n0, n1⟩ := hn
  have e := Int.tmod_add_mul_tdiv n 1000003
  have b1 := Int.tmod_lt_of_pos n (b := 1000003) (by omega)
  have b2 := Int.lt_tmod_of_pos n (b := 1000003) (by omega)
  have hR : Hid ((8191 * h + n.tmod 1000003 % 1000003 + 1) % 1000003 = hstep h n) := Lib.hid (by
    unfold hstep
    have : n.tmod 1000003 % 1000003 = n % 1000003 := by omega
    rw [this])
  clear e
  go_enter Tryd.func100, Tryd.ntmps100
  go_wp2
  go_ret
  exact ⟨ret_int (by rw [← hR.out]), rfl⟩
theorem l4Hash_any (h : Int) (A : Option Addr) (n c : Nat) (l : List Int) (w : World) (hs : Sl w 1 encInt A n l) (hn : (n : Nat) ≤ 9223372036854775807) (h0 : 0 ≤ h) (h1 : h ≤ 1000002) (hl : ∀ x ∈ l, int64 x) : Calls Tryd.prog 101 #[.int .i64 h, .slice A n c] w fun e w' => e = .returned (.int .i64 (hashL h l)) ∧ w = w' := by
  obtain rfl := hs.len
  go_enter Tryd.func101, Tryd.ntmps101
  go_wp2
  go_loop [0, 5] (fun a i => ∃ k : Nat, k ≤ l.length ∧ i = .int .i64 k ∧ a = .int .i64 (hashL h (l.take k))) (fun _ i => l.length - (intOf i).toNat)
  case atStart => exact ⟨0, Nat.zero_le _, rfl, rfl⟩
  case round =>
    obtain ⟨k, hk, rfl, rfl⟩ := hrel
    obtain ⟨g0, g1⟩ := hashL_bd (h := h) ⟨h0, h1⟩ (l.take k)
    by_cases hlt : k < l.length
    · obtain ⟨b, off, x, rfl, hbl, hx, hc⟩ := hs.at_ hlt
      have q0 := int_at hc
      have hxx := hl x (List.mem_of_getElem? hx)
      have HT := Lib.hid (hashL_take (h := h) hx)
      clear hx hc hs hl
      generalize hashL h (l.take k) = H at *
      go_wp2_with (go_at_call 100; refine (l4Step_any _ _ _ g0 g1 hxx).mono ?_; rintro e w1 ⟨rfl, rfl⟩)
      go_round
      case rel => exact ⟨k + 1, by omega, by go_num, by rw [HT.out]⟩
      case measure => simp [intOf]; omega
    · have hkn : l.take k = l := List.take_of_length_le (by omega)
      have H := Lib.hid hkn; clear hkn
      go_wp2
      go_ret
      exact ⟨ret_int (by rw [H.out]), rfl⟩
theorem l4Tag_any (key : Int) (A : Option Addr) (n c : Nat) (l : List Int) (w : World) (hs : Sl w 1 encInt A n l) (hn : (n : Nat) ≤ 9223372036854775807) (hk : int64 key) (hl : ∀ x ∈ l, int64 x) : Calls Tryd.prog 77 #[.int .i64 key, .slice A n c] w fun e w' => e = .returned (.int .i64 (tagL key l)) ∧ w = w' := by
  obtain ⟨a0, a1⟩ := hstep_bd 17 key
  obtain ⟨b0, b1⟩ := hashL_bd ⟨a0, a1⟩ l
  go_enter Tryd.func77, Tryd.ntmps77
  go_wp2_with fail
  refine (l4Step_any 17 key _ (by omega) (by omega) hk).mono ?_
  rintro e w1 ⟨rfl, rfl⟩
  go_wp2_with fail
  refine (l4Hash_any _ _ _ _ l _ hs hn a0 a1 hl).mono ?_
  rintro e w1 ⟨rfl, rfl⟩
  go_wp2_with fail
  refine (l4Step_any _ key _ b0 b1 hk).mono ?_
  rintro e w1 ⟨rfl, rfl⟩
  go_wp2
  go_ret
  exact ⟨rfl, rfl⟩
theorem Sl.lit (w : World) (T : TypeId) (cs : Array Value) (l : List Int) (g n : Nat) (hg : w.heap.size = g) (hn : l.length = n) (h : cs.toList = l.flatMap encInt) : Sl (w.alloc (.cells cs T)) 1 encInt (some ⟨g, 0, none⟩) n l := by
  subst hg hn
  refine ⟨rfl, fun _ => ⟨w.heap.size, 0, rfl, by simp, fun k x hk j v hv => ?_⟩⟩
  have h1 := flatMap_at encInt_len l k x j v hk hv
  have h2 := (Blk.new w cs T).2 (k * 1 + j) v (by rw [h]; exact h1)
  rw [Nat.zero_add]
  exact h2
/-- A state whose numbers an int can hold. -/
def stBd (s : St) : Prop := int64 s.t ∧ int64 s.p.x ∧ int64 s.p.y ∧ int64 s.f.x ∧ int64 s.f.y ∧ int64 s.d ∧ int64 s.g
set_option maxRecDepth 100000 in
theorem l13Hash_any (s : St) (w : World) (hb : stBd s) : Calls Tryd.prog 119 #[.agg #[.int .i64 s.t, .int .i64 s.p.x, .int .i64 s.p.y, .int .i64 s.f.x, .int .i64 s.f.y, .int .i64 s.d, .int .i64 s.g, .bool s.dn, .bool s.ov]] w fun e w' => e = .returned (.int .i64 (hashS s)) ∧ Below w.heap.size w w' := by
  obtain ⟨t, ⟨px, py⟩, ⟨ux, uy⟩, d, g, dn, ov⟩ := s
  obtain ⟨b1, b2, b3, b4, b5, b6, b7⟩ := hb
  simp only at *
  cases dn
  · cases ov
    · have hF : True := trivial
      go_enter Tryd.func119, Tryd.ntmps119
      go_wp2_with fail
      refine (l4Hash_any 17 _ 8 8 [t, px, py, ux, uy, d, g, 0] _ (Sl.lit _ _ _ _ _ 8 (by simp) rfl (by simp [encInt])) (by omega) (by omega) (by omega) (by intro x hx; simp only [List.mem_cons, List.not_mem_nil, or_false] at hx; rcases hx with rfl | rfl | rfl | rfl | rfl | rfl | rfl | rfl <;> first | assumption | (unfold int64; omega))).mono ?_
      rintro e w1 ⟨rfl, rfl⟩
      go_wp2
      go_ret
      refine ⟨rfl, ?_⟩; (with_reducible repeat first | exact bl0 _ _ | refine blA ?_ _ | (refine blS ?_ ?_ _; (simp <;> omega)) | refine blD ?_ | refine blN ?_ _ | refine blF ?_ ‹_›)
    · have hF : True := trivial
      go_enter Tryd.func119, Tryd.ntmps119
      go_wp2_with fail
      refine (l4Hash_any 17 _ 8 8 [t, px, py, ux, uy, d, g, 2] _ (Sl.lit _ _ _ _ _ 8 (by simp) rfl (by simp [encInt])) (by omega) (by omega) (by omega) (by intro x hx; simp only [List.mem_cons, List.not_mem_nil, or_false] at hx; rcases hx with rfl | rfl | rfl | rfl | rfl | rfl | rfl | rfl <;> first | assumption | (unfold int64; omega))).mono ?_
      rintro e w1 ⟨rfl, rfl⟩
      go_wp2
      go_ret
      refine ⟨rfl, ?_⟩; (with_reducible repeat first | exact bl0 _ _ | refine blA ?_ _ | (refine blS ?_ ?_ _; (simp <;> omega)) | refine blD ?_ | refine blN ?_ _ | refine blF ?_ ‹_›)
  · cases ov
    · have hF : True := trivial
      go_enter Tryd.func119, Tryd.ntmps119
      go_wp2_with fail
      refine (l4Hash_any 17 _ 8 8 [t, px, py, ux, uy, d, g, 1] _ (Sl.lit _ _ _ _ _ 8 (by simp) rfl (by simp [encInt])) (by omega) (by omega) (by omega) (by intro x hx; simp only [List.mem_cons, List.not_mem_nil, or_false] at hx; rcases hx with rfl | rfl | rfl | rfl | rfl | rfl | rfl | rfl <;> first | assumption | (unfold int64; omega))).mono ?_
      rintro e w1 ⟨rfl, rfl⟩
      go_wp2
      go_ret
      refine ⟨rfl, ?_⟩; (with_reducible repeat first | exact bl0 _ _ | refine blA ?_ _ | (refine blS ?_ ?_ _; (simp <;> omega)) | refine blD ?_ | refine blN ?_ _ | refine blF ?_ ‹_›)
    · have hF : True := trivial
      go_enter Tryd.func119, Tryd.ntmps119
      go_wp2_with fail
      refine (l4Hash_any 17 _ 8 8 [t, px, py, ux, uy, d, g, 3] _ (Sl.lit _ _ _ _ _ 8 (by simp) rfl (by simp [encInt])) (by omega) (by omega) (by omega) (by intro x hx; simp only [List.mem_cons, List.not_mem_nil, or_false] at hx; rcases hx with rfl | rfl | rfl | rfl | rfl | rfl | rfl | rfl <;> first | assumption | (unfold int64; omega))).mono ?_
      rintro e w1 ⟨rfl, rfl⟩
      go_wp2
      go_ret
      refine ⟨rfl, ?_⟩; (with_reducible repeat first | exact bl0 _ _ | refine blA ?_ _ | (refine blS ?_ ?_ _; (simp <;> omega)) | refine blD ?_ | refine blN ?_ _ | refine blF ?_ ‹_›)
end Go.Proofs.YtdpoicfciogfnaaDoor

/- The reference's runs: l21Ok, l21To, RunScore, RunHashes. -/
namespace Go.Proofs.YtdpoicfciogfnaaDoor
open Go.ChangeShapes Go.WideShapes Go.ChangeAt Go.RowKit
/-- What a level must be so that a run can be reckoned. -/
structure LevG (l : Lev) : Prop where
  st : vOk l.start = true
  w : ∀ b ∈ l.walls, bdBx b
  nw : l.walls.length ≤ 1000000
  ng : l.gates.length ≤ 1000000
  b0 : 0 ≤ l.bans
  b1 : l.bans ≤ 1000
theorem LevG.of_ok {l : Lev} (h : levOk l = true) : LevG l := by
  obtain ⟨_, _, h3, h4, h5, h6, _, _, h9, _⟩ := levOk_iff.1 h
  exact ⟨h3, fun b hb => bxOk_bdBx (h5 b hb), by omega, by omega, h9.1, by omega⟩
set_option maxRecDepth 100000 in
theorem l21Ok_any (l : Lev) (ins : List Inp) (A A' A2 : Option Addr) (c c' c2 : Nat) (w : World) (h : Sl w 4 encBx A l.walls.length l.walls) (hg : Sl w 4 encBx A' l.gates.length l.gates) (hs : Sl w 3 encInp A2 ins.length ins)
    (hn : (l.walls.length : Nat) ≤ 9223372036854775807) (hn' : (l.gates.length : Nat) ≤ 9223372036854775807) (hni : (ins.length : Nat) ≤ 9223372036854775807) : Calls Tryd.prog 93 #[.agg #[.int .i64 l.id, .int .i64 l.ticks, .int .i64 l.start.x, .int .i64 l.start.y, .slice A l.walls.length c, .slice A' l.gates.length c', .int .i64 l.fin.lo.x, .int .i64 l.fin.lo.y, .int .i64 l.fin.hi.x, .int .i64 l.fin.hi.y, .int .i64 l.bans], .slice A2 ins.length c2] w fun e w' => e = .returned (.bool (runOk l ins)) ∧ Below w.heap.size w w' := by
  cases hL : levOk l
  · have hR : Hid (runOk l ins = false) := Lib.hid (by unfold runOk; rw [hL]; rfl)
    go_enter Tryd.func93, Tryd.ntmps93
    go_wp2_with (go_at_call 71; refine (specLevelValid_any l _ _ _ _ _ (h.below (by (with_reducible repeat first | exact bl0 _ _ | refine blA ?_ _ | (refine blS ?_ ?_ _; (simp <;> omega)) | refine blD ?_ | refine blN ?_ _ | refine blF ?_ ‹_›))) (hg.below (by (with_reducible repeat first | exact bl0 _ _ | refine blA ?_ _ | (refine blS ?_ ?_ _; (simp <;> omega)) | refine blD ?_ | refine blN ?_ _ | refine blF ?_ ‹_›))) hn hn').mono ?_; rintro e w1 ⟨rfl, hb1⟩; obtain ⟨hc1, hf1⟩ := bcell hb1; have hy1 : w.heap.size < w1.heap.size := (by have := hb1.size; first | omega | (simp at this; omega)))
    go_ret
    refine ⟨ret_bool hR.out.symm, ?_⟩; (with_reducible repeat first | exact bl0 _ _ | refine blA ?_ _ | (refine blS ?_ ?_ _; (simp <;> omega)) | refine blD ?_ | refine blN ?_ _ | refine blF ?_ ‹_›)
  · have hR : Hid (runOk l ins = decide (legal l ins < 0)) := Lib.hid (by unfold runOk; rw [hL]; rfl)
    have hG := LevG.of_ok hL
    have g0 := hG.b0
    have g1 := hG.b1
    go_enter Tryd.func93, Tryd.ntmps93
    go_wp2_with (first
      | (go_at_call 71; refine (specLevelValid_any l _ _ _ _ _ (h.below (by (with_reducible repeat first | exact bl0 _ _ | refine blA ?_ _ | (refine blS ?_ ?_ _; (simp <;> omega)) | refine blD ?_ | refine blN ?_ _ | refine blF ?_ ‹_›))) (hg.below (by (with_reducible repeat first | exact bl0 _ _ | refine blA ?_ _ | (refine blS ?_ ?_ _; (simp <;> omega)) | refine blD ?_ | refine blN ?_ _ | refine blF ?_ ‹_›))) hn hn').mono ?_; rintro e w1 ⟨rfl, hb1⟩; obtain ⟨hc1, hf1⟩ := bcell hb1; have hy1 : w.heap.size < w1.heap.size := (by have := hb1.size; first | omega | (simp at this; omega)))
      | (go_at_call 98; refine (l12Legal_any l ins _ _ _ _ _ _ _ (hs.below (by (with_reducible repeat first | exact bl0 _ _ | refine blA ?_ _ | (refine blS ?_ ?_ _; (simp <;> omega)) | refine blD ?_ | refine blN ?_ _ | refine blF ?_ ‹_›))) hni g0 g1).mono ?_; rintro e w2 ⟨rfl, hb2⟩; obtain ⟨hc2, hf2⟩ := bcell hb2; have hy2 : w.heap.size < w2.heap.size := (by have := hb2.size; first | omega | (simp at this; omega))))
    go_ret
    refine ⟨ret_bool hR.out.symm, ?_⟩; (with_reducible repeat first | exact bl0 _ _ | refine blA ?_ _ | (refine blS ?_ ?_ _; (simp <;> omega)) | refine blD ?_ | refine blN ?_ _ | refine blF ?_ ‹_›)
set_option maxRecDepth 100000 in
set_option maxHeartbeats 1000000 in
theorem l21To_any (l : Lev) (ins : List Inp) (n : Nat) (A A' A2 : Option Addr) (c c' c2 : Nat) (w : World) (h : Sl w 4 encBx A l.walls.length l.walls) (hg : Sl w 4 encBx A' l.gates.length l.gates) (hs : Sl w 3 encInp A2 ins.length ins)
    (hL : LevG l) (hn : n ≤ ins.length) (hn2 : ins.length ≤ 100000) (hx : ∀ x ∈ ins, -1 ≤ x.s ∧ x.s ≤ 1) : Calls Tryd.prog 118 #[.agg #[.int .i64 l.id, .int .i64 l.ticks, .int .i64 l.start.x, .int .i64 l.start.y, .slice A l.walls.length c, .slice A' l.gates.length c', .int .i64 l.fin.lo.x, .int .i64 l.fin.lo.y, .int .i64 l.fin.hi.x, .int .i64 l.fin.hi.y, .int .i64 l.bans], .slice A2 ins.length c2, .int .i64 n] w fun e w' => e = .returned (.agg #[.int .i64 (runTo l ins n).t, .int .i64 (runTo l ins n).p.x, .int .i64 (runTo l ins n).p.y, .int .i64 (runTo l ins n).f.x, .int .i64 (runTo l ins n).f.y, .int .i64 (runTo l ins n).d, .int .i64 (runTo l ins n).g, .bool (runTo l ins n).dn, .bool (runTo l ins n).ov]) ∧ Below w.heap.size w w' := by
  go_enter Tryd.func118, Tryd.ntmps118
  go_wp2_with fail
  refine (l13Start_any l _ _ _ _ _).mono ?_
  rintro e w1 ⟨rfl, hb1⟩
  have L1 : Bk w1 w.heap.size 87 #[.int .i64 l.id, .int .i64 l.ticks, .int .i64 l.start.x, .int .i64 l.start.y, .slice A l.walls.length c, .slice A' l.gates.length c', .int .i64 l.fin.lo.x, .int .i64 l.fin.lo.y, .int .i64 l.fin.hi.x, .int .i64 l.fin.hi.y, .int .i64 l.bans] := by (repeat first | (with_reducible first | assumption | exact kN _ _ _ (by simp) | refine kA ?_ _ | refine kD ?_ | refine kW ?_ _ | apply Bk.set' | refine kF ?_ (by simp <;> omega) _ | refine kL ?_ ‹_› | refine kG ?_ ‹_› (by first | omega | simp <;> omega)) | exact ⟨by with_reducible rfl⟩ | exact ⟨by simp⟩)
  have R1 : Bk w1 (w.heap.size + 1) 132 #[.int .i64 0, .int .i64 0, .int .i64 0, .int .i64 0, .int .i64 0, .int .i64 0, .int .i64 0, .bool false, .bool false] := by (repeat first | (with_reducible first | assumption | exact kN _ _ _ (by simp) | refine kA ?_ _ | refine kD ?_ | refine kW ?_ _ | apply Bk.set' | refine kF ?_ (by simp <;> omega) _ | refine kL ?_ ‹_› | refine kG ?_ ‹_› (by first | omega | simp <;> omega)) | exact ⟨by with_reducible rfl⟩ | exact ⟨by simp⟩)
  have hd1 : Below w.heap.size w w1 := by (with_reducible repeat first | exact bl0 _ _ | refine blA ?_ _ | (refine blS ?_ ?_ _; (simp <;> omega)) | refine blD ?_ | refine blN ?_ _ | refine blF ?_ ‹_›)
  clear hb1
  have zL := L1.lt
  have zR := R1.lt
  go_wp2
  go_loopw [8] (fun i wr => ∃ k : Nat, k ≤ n ∧ i = .int .i64 k ∧ Bk wr w.heap.size 87 #[.int .i64 l.id, .int .i64 l.ticks, .int .i64 l.start.x, .int .i64 l.start.y, .slice A l.walls.length c, .slice A' l.gates.length c', .int .i64 l.fin.lo.x, .int .i64 l.fin.lo.y, .int .i64 l.fin.hi.x, .int .i64 l.fin.hi.y, .int .i64 l.bans] ∧ Bk wr (w.heap.size + 1) 132 #[.int .i64 0, .int .i64 0, .int .i64 0, .int .i64 0, .int .i64 0, .int .i64 0, .int .i64 0, .bool false, .bool false] ∧ Bk wr w1.heap.size 132 #[.int .i64 (runTo l ins k).t, .int .i64 (runTo l ins k).p.x, .int .i64 (runTo l ins k).p.y, .int .i64 (runTo l ins k).f.x, .int .i64 (runTo l ins k).f.y, .int .i64 (runTo l ins k).d, .int .i64 (runTo l ins k).g, .bool (runTo l ins k).dn, .bool (runTo l ins k).ov] ∧ Below w.heap.size w wr) (fun i _ => n - (intOf i).toNat)
  case atStart => exact ⟨0, Nat.zero_le _, rfl, L1.alloc _, R1.alloc _, Bk.new _ _ _ rfl, by (with_reducible repeat first | exact bl0 _ _ | refine blA ?_ _ | (refine blS ?_ ?_ _; (simp <;> omega)) | refine blD ?_ | refine blN ?_ _ | refine blF ?_ ‹_›)⟩
  case round =>
    obtain ⟨k, hk, rfl, hB, hR, hS, hb⟩ := hrel
    clear L1 R1
    have z1 := hB.lt
    have z2 := hR.lt
    have z3 := hS.lt
    by_cases hlt : k < n
    · obtain ⟨b, off, x, rfl, hbl, hxk, hc⟩ := (hs.below hb).at_ (k := k) (by omega)
      have q0 : wr.cell? ⟨b, off + k * 3, none⟩ = some (.int .i64 x.s) := hc 0 _ rfl
      have q1 : wr.cell? ⟨b, off + k * 3 + 1, none⟩ = some (.int .i64 x.p) := hc 1 _ rfl
      have q2 : wr.cell? ⟨b, off + k * 3 + 2, none⟩ = some (.bool x.z) := hc 2 _ rfl
      have hxx := hx x (List.mem_of_getElem? hxk)
      have HT := Lib.hid (runTo_succ (l := l) hxk)
      have hok := runTo_ok (l := l) ins k hL.st
      obtain ⟨ht0, ht1⟩ := runTo_t l ins k (by omega)
      have ht2 : (runTo l ins k).t ≤ 1000000 := by omega
      have hw := hL.w
      have hng := hL.ng
      have hnw : l.walls.length ≤ 9223372036854775807 := by have := hL.nw; omega
      clear ht1 hxk hc hx hL
      generalize runTo l ins k = s at *
      obtain ⟨⟨l0, l1, l2, l3, l4, l5, l6, l7, l8, l9, l10⟩, lf⟩ := hB.c11
      obtain ⟨⟨s0, s1, s2, s3, s4, s5, s6, s7, s8⟩, sf⟩ := hS.c9
      have hltI : (k : Int) < (n : Int) := by omega
      have hkI : (k : Int) < (ins.length : Int) := by omega
      go_wp2
      go_still_tail 6, (by kernel_rfl)
      change wpList _ _ _ _ _ wr.drew
      go_wp2_with fail
      refine (l13Step_any l s x _ _ _ _ _ (h.below (by (with_reducible repeat first | exact bl0 _ _ | refine blA ?_ _ | (refine blS ?_ ?_ _; (simp <;> omega)) | refine blD ?_ | refine blN ?_ _ | refine blF ?_ ‹_›))) (hg.below (by (with_reducible repeat first | exact bl0 _ _ | refine blA ?_ _ | (refine blS ?_ ?_ _; (simp <;> omega)) | refine blD ?_ | refine blN ?_ _ | refine blF ?_ ‹_›))) hnw hw hok hng ht0 ht2 hxx).mono ?_
      rw [← HT.out]
      generalize hS9 : runTo l ins (k + 1) = s' at *
      rintro e w2 ⟨rfl, hb2⟩
      have hB2 : Bk w2 w.heap.size 87 #[.int .i64 l.id, .int .i64 l.ticks, .int .i64 l.start.x, .int .i64 l.start.y, .slice A l.walls.length c, .slice A' l.gates.length c', .int .i64 l.fin.lo.x, .int .i64 l.fin.lo.y, .int .i64 l.fin.hi.x, .int .i64 l.fin.hi.y, .int .i64 l.bans] := by (repeat first | (with_reducible first | assumption | exact kN _ _ _ (by simp) | refine kA ?_ _ | refine kD ?_ | refine kW ?_ _ | apply Bk.set' | refine kF ?_ (by simp <;> omega) _ | refine kL ?_ ‹_› | refine kG ?_ ‹_› (by first | omega | simp <;> omega)) | exact ⟨by with_reducible rfl⟩ | exact ⟨by simp⟩)
      have hR2 : Bk w2 (w.heap.size + 1) 132 #[.int .i64 0, .int .i64 0, .int .i64 0, .int .i64 0, .int .i64 0, .int .i64 0, .int .i64 0, .bool false, .bool false] := by (repeat first | (with_reducible first | assumption | exact kN _ _ _ (by simp) | refine kA ?_ _ | refine kD ?_ | refine kW ?_ _ | apply Bk.set' | refine kF ?_ (by simp <;> omega) _ | refine kL ?_ ‹_› | refine kG ?_ ‹_› (by first | omega | simp <;> omega)) | exact ⟨by with_reducible rfl⟩ | exact ⟨by simp⟩)
      have hS2 : Bk w2 w1.heap.size 132 #[.int .i64 s.t, .int .i64 s.p.x, .int .i64 s.p.y, .int .i64 s.f.x, .int .i64 s.f.y, .int .i64 s.d, .int .i64 s.g, .bool s.dn, .bool s.ov] := by (repeat first | (with_reducible first | assumption | exact kN _ _ _ (by simp) | refine kA ?_ _ | refine kD ?_ | refine kW ?_ _ | apply Bk.set' | refine kF ?_ (by simp <;> omega) _ | refine kL ?_ ‹_› | refine kG ?_ ‹_› (by first | omega | simp <;> omega)) | exact ⟨by with_reducible rfl⟩ | exact ⟨by simp⟩)
      have hd2 : Below w.heap.size w w2 := by (with_reducible repeat first | exact bl0 _ _ | refine blA ?_ _ | (refine blS ?_ ?_ _; (simp <;> omega)) | refine blD ?_ | refine blN ?_ _ | refine blF ?_ ‹_›)
      have HS9 := Lib.hid hS9
      clear hb2 hb hB hR hS z1 z2 z3 l0 l1 l2 l3 l4 l5 l6 l7 l8 l9 l10 lf s0 s1 s2 s3 s4 s5 s6 s7 s8 sf q0 q1 q2 hS9
      obtain ⟨⟨s0, s1, s2, s3, s4, s5, s6, s7, s8⟩, sf⟩ := hS2.c9
      go_wp2
      case roundEnd =>
        go_roundw
        case rel => exact ⟨k + 1, by omega, by go_num, by (repeat first | (with_reducible first | assumption | exact kN _ _ _ (by simp) | refine kA ?_ _ | refine kD ?_ | refine kW ?_ _ | apply Bk.set' | refine kF ?_ (by simp <;> omega) _ | refine kL ?_ ‹_› | refine kG ?_ ‹_› (by first | omega | simp <;> omega)) | exact ⟨by with_reducible rfl⟩ | exact ⟨by simp⟩), by (repeat first | (with_reducible first | assumption | exact kN _ _ _ (by simp) | refine kA ?_ _ | refine kD ?_ | refine kW ?_ _ | apply Bk.set' | refine kF ?_ (by simp <;> omega) _ | refine kL ?_ ‹_› | refine kG ?_ ‹_› (by first | omega | simp <;> omega)) | exact ⟨by with_reducible rfl⟩ | exact ⟨by simp⟩), by rw [HS9.out]; (repeat first | (with_reducible first | assumption | exact kN _ _ _ (by simp) | refine kA ?_ _ | refine kD ?_ | refine kW ?_ _ | apply Bk.set' | refine kF ?_ (by simp <;> omega) _ | refine kL ?_ ‹_› | refine kG ?_ ‹_› (by first | omega | simp <;> omega)) | exact ⟨by with_reducible rfl⟩ | exact ⟨by simp⟩), by (with_reducible repeat first | exact bl0 _ _ | refine blA ?_ _ | (refine blS ?_ ?_ _; (simp <;> omega)) | refine blD ?_ | refine blN ?_ _ | refine blF ?_ ‹_›)⟩
        case measure => simp [intOf]; omega
    · have hke : k = n := by omega
      subst hke
      generalize hS9 : runTo l ins k = s at *
      have HS9 := Lib.hid hS9
      clear hS9
      obtain ⟨⟨s0, s1, s2, s3, s4, s5, s6, s7, s8⟩, sf⟩ := hS.c9
      obtain ⟨⟨r0, r1, r2, r3, r4, r5, r6, r7, r8⟩, rf⟩ := hR.c9
      have zz : w.heap.size + 1 ≠ w1.heap.size := by omega
      clear h hg hs hx hL
      go_wp2
      refine bodyPost_ret (v := .agg #[.int .i64 s.t, .int .i64 s.p.x, .int .i64 s.p.y, .int .i64 s.f.x, .int .i64 s.f.y, .int .i64 s.d, .int .i64 s.g, .bool s.dn, .bool s.ov]) (by simp [results, Tryd.results118, go_sem, *]) rfl ⟨by rw [HS9.out], ?_⟩; (with_reducible repeat first | exact bl0 _ _ | refine blA ?_ _ | (refine blS ?_ ?_ _; (simp <;> omega)) | refine blD ?_ | refine blN ?_ _ | refine blF ?_ ‹_›)
theorem legal_inps {l : Lev} {ins : List Inp} (h : legal l ins < 0) : ∀ x ∈ ins, inpOk x = true := by
  rcases legal_cases l ins with ⟨_, h1⟩ | ⟨k, _, h2, _⟩
  · intro x hx
    obtain ⟨k, hk⟩ := List.getElem?_of_mem hx
    have hb := h1 k (List.getElem?_eq_some_iff.1 hk).1
    rw [badAt_eq hk] at hb
    simp only [Bool.or_eq_false_iff, Bool.not_eq_false'] at hb
    exact folB_inp hb.2.2
  · rw [h2] at h; omega
theorem legal_len {l : Lev} {ins : List Inp} (h : legal l ins < 0) (ht : l.ticks ≤ 60) (h0 : 0 ≤ l.ticks) : ins.length ≤ 60 ∧ (ins.length : Int) ≤ l.ticks := by
  rcases legal_cases l ins with ⟨_, h1⟩ | ⟨k, _, h2, _⟩
  · cases hl : ins.length with
    | zero => omega
    | succ n =>
      have hx : ins[n]? = some (ins[n]'(by omega)) := List.getElem?_eq_getElem _
      have hb := h1 n (by omega)
      rw [badAt_eq hx] at hb
      simp only [Bool.or_eq_false_iff, decide_eq_false_iff_not] at hb
      omega
  · rw [h2] at h; omega
theorem runOk_iff {l : Lev} {ins : List Inp} : runOk l ins = true ↔ levOk l = true ∧ legal l ins < 0 := by simp [runOk]
theorem runOk_bd {l : Lev} {ins : List Inp} (h : runOk l ins = true) : LevG l ∧ ins.length ≤ 60 ∧ (ins.length : Int) ≤ l.ticks ∧ (∀ x ∈ ins, inpOk x = true) ∧ (∀ x ∈ ins, -1 ≤ x.s ∧ x.s ≤ 1) := by
  obtain ⟨h1, h2⟩ := runOk_iff.1 h
  obtain ⟨_, hT, _⟩ := levOk_iff.1 h1
  obtain ⟨h3, h4⟩ := legal_len h2 (by omega) (by omega)
  have h5 := legal_inps h2
  exact ⟨LevG.of_ok h1, h3, h4, h5, fun x hx => inpOk_s (h5 x hx)⟩
set_option maxRecDepth 100000 in
theorem specRunScore_any (l : Lev) (ins : List Inp) (A A' A2 : Option Addr) (c c' c2 : Nat) (w : World) (h : Sl w 4 encBx A l.walls.length l.walls) (hg : Sl w 4 encBx A' l.gates.length l.gates) (hs : Sl w 3 encInp A2 ins.length ins)
    (hn : (l.walls.length : Nat) ≤ 9223372036854775807) (hn' : (l.gates.length : Nat) ≤ 9223372036854775807) (hni : (ins.length : Nat) ≤ 9223372036854775807) : Calls Tryd.prog 94 #[.agg #[.int .i64 l.id, .int .i64 l.ticks, .int .i64 l.start.x, .int .i64 l.start.y, .slice A l.walls.length c, .slice A' l.gates.length c', .int .i64 l.fin.lo.x, .int .i64 l.fin.lo.y, .int .i64 l.fin.hi.x, .int .i64 l.fin.hi.y, .int .i64 l.bans], .slice A2 ins.length c2] w fun e w' => e = .returned (.int .i64 (scoreR l ins)) ∧ Below w.heap.size w w' := by
  cases hok : runOk l ins
  · have hR : Hid (scoreR l ins = -1) := Lib.hid (by unfold scoreR; rw [hok]; rfl)
    go_enter Tryd.func94, Tryd.ntmps94
    go_wp2_with (go_at_call 93; refine (l21Ok_any l ins _ _ _ _ _ _ _ (h.below (by (with_reducible repeat first | exact bl0 _ _ | refine blA ?_ _ | (refine blS ?_ ?_ _; (simp <;> omega)) | refine blD ?_ | refine blN ?_ _ | refine blF ?_ ‹_›))) (hg.below (by (with_reducible repeat first | exact bl0 _ _ | refine blA ?_ _ | (refine blS ?_ ?_ _; (simp <;> omega)) | refine blD ?_ | refine blN ?_ _ | refine blF ?_ ‹_›))) (hs.below (by (with_reducible repeat first | exact bl0 _ _ | refine blA ?_ _ | (refine blS ?_ ?_ _; (simp <;> omega)) | refine blD ?_ | refine blN ?_ _ | refine blF ?_ ‹_›))) hn hn' hni).mono ?_; rintro e w1 ⟨rfl, hb1⟩; obtain ⟨hc1, hf1⟩ := bcell hb1; have hy1 : w.heap.size < w1.heap.size := (by have := hb1.size; first | omega | (simp at this; omega)))
    go_ret
    refine ⟨ret_int hR.out.symm, ?_⟩; (with_reducible repeat first | exact bl0 _ _ | refine blA ?_ _ | (refine blS ?_ ?_ _; (simp <;> omega)) | refine blD ?_ | refine blN ?_ _ | refine blF ?_ ‹_›)
  · obtain ⟨hL, hl60, _, _, hx⟩ := runOk_bd hok
    have hR : Hid (scoreR l ins = if (runTo l ins ins.length).dn then (runTo l ins ins.length).t else -1) := Lib.hid (by unfold scoreR; rw [hok]; rfl)
    go_enter Tryd.func94, Tryd.ntmps94
    go_wp2_with fail
    refine (l21Ok_any l ins _ _ _ _ _ _ _ (h.below (by (with_reducible repeat first | exact bl0 _ _ | refine blA ?_ _ | (refine blS ?_ ?_ _; (simp <;> omega)) | refine blD ?_ | refine blN ?_ _ | refine blF ?_ ‹_›))) (hg.below (by (with_reducible repeat first | exact bl0 _ _ | refine blA ?_ _ | (refine blS ?_ ?_ _; (simp <;> omega)) | refine blD ?_ | refine blN ?_ _ | refine blF ?_ ‹_›))) (hs.below (by (with_reducible repeat first | exact bl0 _ _ | refine blA ?_ _ | (refine blS ?_ ?_ _; (simp <;> omega)) | refine blD ?_ | refine blN ?_ _ | refine blF ?_ ‹_›))) hn hn' hni).mono ?_
    rintro e w1 ⟨rfl, hb1⟩
    have L1 : Bk w1 w.heap.size 87 #[.int .i64 l.id, .int .i64 l.ticks, .int .i64 l.start.x, .int .i64 l.start.y, .slice A l.walls.length c, .slice A' l.gates.length c', .int .i64 l.fin.lo.x, .int .i64 l.fin.lo.y, .int .i64 l.fin.hi.x, .int .i64 l.fin.hi.y, .int .i64 l.bans] := by (repeat first | (with_reducible first | assumption | exact kN _ _ _ (by simp) | refine kA ?_ _ | refine kD ?_ | refine kW ?_ _ | apply Bk.set' | refine kF ?_ (by simp <;> omega) _ | refine kL ?_ ‹_› | refine kG ?_ ‹_› (by first | omega | simp <;> omega)) | exact ⟨by with_reducible rfl⟩ | exact ⟨by simp⟩)
    have hd1 : Below w.heap.size w w1 := by (with_reducible repeat first | exact bl0 _ _ | refine blA ?_ _ | (refine blS ?_ ?_ _; (simp <;> omega)) | refine blD ?_ | refine blN ?_ _ | refine blF ?_ ‹_›)
    clear hb1
    obtain ⟨⟨l0, l1, l2, l3, l4, l5, l6, l7, l8, l9, l10⟩, lf⟩ := L1.c11
    go_wp2_with fail
    refine (l21To_any l ins ins.length _ _ _ _ _ _ _ (h.below (by (with_reducible repeat first | exact bl0 _ _ | refine blA ?_ _ | (refine blS ?_ ?_ _; (simp <;> omega)) | refine blD ?_ | refine blN ?_ _ | refine blF ?_ ‹_›))) (hg.below (by (with_reducible repeat first | exact bl0 _ _ | refine blA ?_ _ | (refine blS ?_ ?_ _; (simp <;> omega)) | refine blD ?_ | refine blN ?_ _ | refine blF ?_ ‹_›))) (hs.below (by (with_reducible repeat first | exact bl0 _ _ | refine blA ?_ _ | (refine blS ?_ ?_ _; (simp <;> omega)) | refine blD ?_ | refine blN ?_ _ | refine blF ?_ ‹_›))) hL (Nat.le_refl _) (by omega) hx).mono ?_
    generalize runTo l ins ins.length = s at *
    rintro e w2 ⟨rfl, hb2⟩
    have hd2 : Below w.heap.size w w2 := by (with_reducible repeat first | exact bl0 _ _ | refine blA ?_ _ | (refine blS ?_ ?_ _; (simp <;> omega)) | refine blD ?_ | refine blN ?_ _ | refine blF ?_ ‹_›)
    clear hb2 hd1 l0 l1 l2 l3 l4 l5 l6 l7 l8 l9 l10 lf L1
    obtain ⟨t, ⟨px, py⟩, ⟨ux, uy⟩, d, g, dn, ov⟩ := s
    cases dn
    all_goals
      go_wp2
      go_ret
      refine ⟨ret_int (by rw [hR.out]; rfl), ?_⟩; (with_reducible repeat first | exact bl0 _ _ | refine blA ?_ _ | (refine blS ?_ ?_ _; (simp <;> omega)) | refine blD ?_ | refine blN ?_ _ | refine blF ?_ ‹_›)
end Go.Proofs.YtdpoicfciogfnaaDoor

/- The reference's RunHashes. -/
namespace Go.Proofs.YtdpoicfciogfnaaDoor
open Go.ChangeShapes Go.WideShapes Go.ChangeAt Go.RowKit
theorem sOk_stBd {l : Lev} {s : St} (h : sOk l s) (hl : l.gates.length ≤ 1000000) (t0 : 0 ≤ s.t) (t1 : s.t ≤ 1000000) : stBd s := by
  have hp := vOk_iff.1 h.p
  have hf := fOk_bd h.f
  have h0 := h.d0
  have h1 := h.d1
  have h2 := h.g0
  have h3 := h.g1
  unfold stBd int64
  omega
theorem runTo_stBd {l : Lev} {ins : List Inp} (hL : LevG l) (n : Nat) (hn : n ≤ ins.length) (h : ins.length ≤ 100000) : stBd (runTo l ins n) := by
  obtain ⟨a, b⟩ := runTo_t l ins n hn
  exact sOk_stBd (runTo_ok ins n hL.st) hL.ng a (by omega)
theorem own_nil_at (w : World) (B N : Nat) (T : TypeId) (hB : B ≤ w.heap.size) (hN : w.heap.size = N) : Own (w.alloc (.cells #[] T)) B T 1 encInt (.slice (some ⟨N, 0, none⟩) 0 0) [] := hN ▸ Own.nil_lit w B T hB
set_option maxRecDepth 100000 in
set_option maxHeartbeats 1000000 in
theorem specRunHashes_any (l : Lev) (ins : List Inp) (A A' A2 : Option Addr) (c c' c2 : Nat) (w : World) (h : Sl w 4 encBx A l.walls.length l.walls) (hg : Sl w 4 encBx A' l.gates.length l.gates) (hs : Sl w 3 encInp A2 ins.length ins)
    (hn : (l.walls.length : Nat) ≤ 9223372036854775807) (hn' : (l.gates.length : Nat) ≤ 9223372036854775807) (hni : ins.length ≤ 9000000000000000000) : Calls Tryd.prog 95 #[.agg #[.int .i64 l.id, .int .i64 l.ticks, .int .i64 l.start.x, .int .i64 l.start.y, .slice A l.walls.length c, .slice A' l.gates.length c', .int .i64 l.fin.lo.x, .int .i64 l.fin.lo.y, .int .i64 l.fin.hi.x, .int .i64 l.fin.hi.y, .int .i64 l.bans], .slice A2 ins.length c2] w (RetOwn 3 1 encInt (hashesR l ins) w) := by
  cases hok : runOk l ins
  · have hR : Hid (hashesR l ins = []) := Lib.hid (by unfold hashesR; rw [hok]; rfl)
    rw [hR.out]
    go_enter Tryd.func95, Tryd.ntmps95
    go_wp2
    go_loopw [5, 6] (fun v i wr => i = .int .i64 5 ∧ Own wr w.heap.size 3 1 encInt v [] ∧ v = .slice (some ⟨w.heap.size + 1, 0, none⟩) 0 0 ∧ Bk wr w.heap.size 87 #[.int .i64 l.id, .int .i64 l.ticks, .int .i64 l.start.x, .int .i64 l.start.y, .slice A l.walls.length c, .slice A' l.gates.length c', .int .i64 l.fin.lo.x, .int .i64 l.fin.lo.y, .int .i64 l.fin.hi.x, .int .i64 l.fin.hi.y, .int .i64 l.bans] ∧ Below w.heap.size w wr) (fun _ i _ => 0)
    case atStart => exact ⟨rfl, own_nil_at _ _ _ _ (by simp) (by simp), rfl, by (repeat first | (with_reducible first | assumption | exact kN _ _ _ (by simp) | refine kA ?_ _ | refine kD ?_ | refine kW ?_ _ | apply Bk.set' | refine kF ?_ (by simp <;> omega) _ | refine kL ?_ ‹_› | refine kG ?_ ‹_› (by first | omega | simp <;> omega)) | exact ⟨by with_reducible rfl⟩ | exact ⟨by simp⟩), by (with_reducible repeat first | exact bl0 _ _ | refine blA ?_ _ | (refine blS ?_ ?_ _; (simp <;> omega)) | refine blD ?_ | refine blN ?_ _ | refine blF ?_ ‹_›)⟩
    case round =>
      obtain ⟨rfl, ho, rfl, hB, hb⟩ := hrel
      obtain ⟨⟨l0, l1, l2, l3, l4, l5, l6, l7, l8, l9, l10⟩, lf⟩ := hB.c11
      by_cases h5 : 5 ≤ (ins.length : Int)
      · go_wp2_with fail
        refine (l21Ok_any l ins _ _ _ _ _ _ _ (h.below (by (with_reducible repeat first | exact bl0 _ _ | refine blA ?_ _ | (refine blS ?_ ?_ _; (simp <;> omega)) | refine blD ?_ | refine blN ?_ _ | refine blF ?_ ‹_›))) (hg.below (by (with_reducible repeat first | exact bl0 _ _ | refine blA ?_ _ | (refine blS ?_ ?_ _; (simp <;> omega)) | refine blD ?_ | refine blN ?_ _ | refine blF ?_ ‹_›))) (hs.below (by (with_reducible repeat first | exact bl0 _ _ | refine blA ?_ _ | (refine blS ?_ ?_ _; (simp <;> omega)) | refine blD ?_ | refine blN ?_ _ | refine blF ?_ ‹_›))) hn hn' (by omega)).mono ?_
        rintro e w1 ⟨rfl, hb1⟩
        have ho1 := ho.later hb1
        go_wp2
        exact bodyPost_ret (v := .slice (some ⟨w.heap.size + 1, 0, none⟩) 0 0) (by simp [results, Tryd.results95, go_sem]) rfl ⟨some ⟨w.heap.size + 1, 0, none⟩, 0, rfl, Nat.le_refl _, ho1, by (with_reducible repeat first | exact bl0 _ _ | refine blA ?_ _ | (refine blS ?_ ?_ _; (simp <;> omega)) | refine blD ?_ | refine blN ?_ _ | refine blF ?_ ‹_›)⟩
      · go_wp2
        exact bodyPost_ret (v := .slice (some ⟨w.heap.size + 1, 0, none⟩) 0 0) (by simp [results, Tryd.results95, go_sem]) rfl ⟨some ⟨w.heap.size + 1, 0, none⟩, 0, rfl, Nat.le_refl _, ho, by (with_reducible repeat first | exact bl0 _ _ | refine blA ?_ _ | (refine blS ?_ ?_ _; (simp <;> omega)) | refine blD ?_ | refine blN ?_ _ | refine blF ?_ ‹_›)⟩
  · obtain ⟨hL, hl60, _, _, hx⟩ := runOk_bd hok
    have hR : Hid (hashesR l ins = hashesTo l ins (ins.length / 5)) := Lib.hid (by unfold hashesR; rw [hok]; rfl)
    rw [hR.out]
    have Hok := Lib.hid hok
    clear hok
    obtain ⟨i0, hi, hz0, hz1, hz2⟩ := info_parts Tryd.infoInt
    go_enter Tryd.func95, Tryd.ntmps95
    go_wp2
    go_loopw [5, 6] (fun v i wr => ∃ k m : Nat, m = 5 * (k + 1) ∧ 5 * k ≤ ins.length ∧ i = .int .i64 m ∧ Own wr (w.heap.size + 1) 3 1 encInt v (hashesTo l ins k) ∧ Bk wr w.heap.size 87 #[.int .i64 l.id, .int .i64 l.ticks, .int .i64 l.start.x, .int .i64 l.start.y, .slice A l.walls.length c, .slice A' l.gates.length c', .int .i64 l.fin.lo.x, .int .i64 l.fin.lo.y, .int .i64 l.fin.hi.x, .int .i64 l.fin.hi.y, .int .i64 l.bans] ∧ Below w.heap.size w wr) (fun _ i _ => ins.length + 5 - (intOf i).toNat)
    case atStart => exact ⟨0, 5, rfl, by omega, rfl, own_nil_at _ _ _ _ (by simp) (by simp), by (repeat first | (with_reducible first | assumption | exact kN _ _ _ (by simp) | refine kA ?_ _ | refine kD ?_ | refine kW ?_ _ | apply Bk.set' | refine kF ?_ (by simp <;> omega) _ | refine kL ?_ ‹_› | refine kG ?_ ‹_› (by first | omega | simp <;> omega)) | exact ⟨by with_reducible rfl⟩ | exact ⟨by simp⟩), by (with_reducible repeat first | exact bl0 _ _ | refine blA ?_ _ | (refine blS ?_ ?_ _; (simp <;> omega)) | refine blD ?_ | refine blN ?_ _ | refine blF ?_ ‹_›)⟩
    case round =>
      obtain ⟨k, m, hm, hk5, rfl, ho, hB, hb⟩ := hrel
      have Hm := Lib.hid hm
      have hkl : (hashesTo l ins k).length ≤ 60 := by rw [hashesTo_len]; omega
      obtain ⟨⟨l0, l1, l2, l3, l4, l5, l6, l7, l8, l9, l10⟩, lf⟩ := hB.c11
      by_cases h5 : (m : Int) ≤ (ins.length : Int)
      · have hml : m ≤ ins.length := by omega
        have HS := Lib.hid (hashesTo_succ l ins k)
        have hst := runTo_stBd (ins := ins) hL m hml (by omega)
        clear hm
        go_wp2_with fail
        refine (l21Ok_any l ins _ _ _ _ _ _ _ (h.below (by (with_reducible repeat first | exact bl0 _ _ | refine blA ?_ _ | (refine blS ?_ ?_ _; (simp <;> omega)) | refine blD ?_ | refine blN ?_ _ | refine blF ?_ ‹_›))) (hg.below (by (with_reducible repeat first | exact bl0 _ _ | refine blA ?_ _ | (refine blS ?_ ?_ _; (simp <;> omega)) | refine blD ?_ | refine blN ?_ _ | refine blF ?_ ‹_›))) (hs.below (by (with_reducible repeat first | exact bl0 _ _ | refine blA ?_ _ | (refine blS ?_ ?_ _; (simp <;> omega)) | refine blD ?_ | refine blN ?_ _ | refine blF ?_ ‹_›))) hn hn' (by omega)).mono ?_
        rw [Hok.out]
        rintro e w1 ⟨rfl, hb1⟩
        have hB1 := hB.later hb1
        have ho1 := ho.later hb1
        have hd1 : Below w.heap.size w w1 := by (with_reducible repeat first | exact bl0 _ _ | refine blA ?_ _ | (refine blS ?_ ?_ _; (simp <;> omega)) | refine blD ?_ | refine blN ?_ _ | refine blF ?_ ‹_›)
        clear hb1 hB ho hb l0 l1 l2 l3 l4 l5 l6 l7 l8 l9 l10 lf
        obtain ⟨⟨l0, l1, l2, l3, l4, l5, l6, l7, l8, l9, l10⟩, lf⟩ := hB1.c11
        go_wp2_with fail
        refine (l21To_any l ins m _ _ _ _ _ _ _ (h.below (by (with_reducible repeat first | exact bl0 _ _ | refine blA ?_ _ | (refine blS ?_ ?_ _; (simp <;> omega)) | refine blD ?_ | refine blN ?_ _ | refine blF ?_ ‹_›))) (hg.below (by (with_reducible repeat first | exact bl0 _ _ | refine blA ?_ _ | (refine blS ?_ ?_ _; (simp <;> omega)) | refine blD ?_ | refine blN ?_ _ | refine blF ?_ ‹_›))) (hs.below (by (with_reducible repeat first | exact bl0 _ _ | refine blA ?_ _ | (refine blS ?_ ?_ _; (simp <;> omega)) | refine blD ?_ | refine blN ?_ _ | refine blF ?_ ‹_›))) hL hml (by omega) hx).mono ?_
        rintro e w2 ⟨rfl, hb2⟩
        have hB2 := hB1.later hb2
        have ho2 := ho1.later hb2
        have hd2 : Below w.heap.size w w2 := by (with_reducible repeat first | exact bl0 _ _ | refine blA ?_ _ | (refine blS ?_ ?_ _; (simp <;> omega)) | refine blD ?_ | refine blN ?_ _ | refine blF ?_ ‹_›)
        clear hb2 hB1 ho1 hd1 l0 l1 l2 l3 l4 l5 l6 l7 l8 l9 l10 lf
        go_wp2_with fail
        refine (l13Hash_any _ _ hst).mono ?_
        rintro e w3 ⟨rfl, hb3⟩
        have hB3 := hB2.later hb3
        have ho3 := ho2.later hb3
        have hd3 : Below w.heap.size w w3 := by (with_reducible repeat first | exact bl0 _ _ | refine blA ?_ _ | (refine blS ?_ ?_ _; (simp <;> omega)) | refine blD ?_ | refine blN ?_ _ | refine blF ?_ ‹_›)
        clear hb3 hB2 ho2 hd2
        have hx3 := hB3.lt
        have hgt := ho3.lt
        go_wp2_with (at_builtin; refine wp_appS rfl _ _ 23 rfl (w.heap.size + 1) 3 i0 (.int .i64 0) 1 8 Tryd.underlying23 hi hz0 hz1 hz2 rfl (by decide) encInt_len one_int _ _ [hashS (runTo l ins m)] rfl (ho3.alloc _) _ 1 1 rfl (Sl.one _ (hashS (runTo l ins m)) _ _ rfl) (by intro e; cases e) (by unfold maxLen; omega) (by omega) (by simp; omega) ?_; intro v' w4 ho4 hg4)
        case roundEnd =>
          have hg5 : (w3.alloc (.cells #[.int .i64 (hashS (runTo l ins m))] 3)).grownBy w4 u5.ownBlock := hg4
          have hB4 : Bk w4 w.heap.size 87 #[.int .i64 l.id, .int .i64 l.ticks, .int .i64 l.start.x, .int .i64 l.start.y, .slice A l.walls.length c, .slice A' l.gates.length c', .int .i64 l.fin.lo.x, .int .i64 l.fin.lo.y, .int .i64 l.fin.hi.x, .int .i64 l.fin.hi.y, .int .i64 l.bans] := (hB3.alloc _).grown hg5 (by intro e; have := (hgt _ e.symm).1; omega)
          have hd4 : Below w.heap.size w w4 := (below_alloc hd3 _).grown hg5 (by simp; omega) (by intro g e; have := (hgt _ e).1; omega)
          have HS2 : hashesTo l ins (k + 1) = hashesTo l ins k ++ [hashS (runTo l ins m)] := by rw [Hm.out]; exact HS.out
          rw [← HS2] at ho4
          go_roundw
          case rel => exact ⟨k + 1, m + 5, by have := Hm.out; omega, by have := Hm.out; omega, by go_num, ho4, hB4, hd4⟩
          case measure => simp [intOf]; omega
      · have hk : k = ins.length / 5 := by omega
        obtain ⟨A1, c1, rfl, hc1, _⟩ := ho.form
        subst hk
        have hlen := hashesTo_len l ins (ins.length / 5)
        clear h hg hs
        go_wp2
        exact bodyPost_ret (v := .slice A1 (hashesTo l ins (ins.length / 5)).length c1) (by simp [results, Tryd.results95, go_sem, hlen]) rfl ⟨A1, c1, rfl, hc1, ho.mono (by omega), hb⟩
end Go.Proofs.YtdpoicfciogfnaaDoor

/- Runs and replays: the plain laws. No program is named here. -/
namespace Go.Proofs.YtdpoicfciogfnaaDoor
open Go.RowKit
theorem runTo_snoc (l : Lev) (out : List Inp) (x : Inp) : runTo l (out ++ [x]) (out ++ [x]).length = stepS l (runTo l out out.length) x := by
  unfold runTo
  rw [List.take_length, List.take_length, List.foldl_append]
  rfl
theorem steerOf_snoc (out : List Inp) (x : Inp) : steerOf (out ++ [x]) = x.s := by simp [steerOf]
theorem hashS_bd (s : St) : 0 ≤ hashS s ∧ hashS s ≤ 1000002 := hashL_bd ⟨by omega, by omega⟩ _
theorem hashB_iff {n : Int} : hashB n = true ↔ 0 ≤ n ∧ n ≤ 1000002 := inR_iff
theorem hashesR_ok (l : Lev) (ins : List Inp) : ∀ x ∈ hashesR l ins, 0 ≤ x ∧ x ≤ 1000002 := by
  intro x hx
  unfold hashesR at hx
  split at hx
  · unfold hashesTo at hx
    obtain ⟨k, _, rfl⟩ := List.mem_map.1 hx
    exact hashS_bd _
  · cases hx
theorem hashesR_len {l : Lev} {ins : List Inp} (h : runOk l ins = true) : (hashesR l ins).length = ins.length / 5 := by
  unfold hashesR
  rw [h, if_pos rfl, hashesTo_len]
theorem hashesR_no {l : Lev} {ins : List Inp} (h : runOk l ins = false) : hashesR l ins = [] := by
  unfold hashesR
  rw [h]
  rfl
theorem scoreR_bd (l : Lev) (ins : List Inp) : -1 ≤ scoreR l ins ∧ scoreR l ins ≤ 60 := by
  unfold scoreR
  cases h : runOk l ins with
  | false => simp
  | true =>
    obtain ⟨_, h60, _⟩ := runOk_bd h
    obtain ⟨a, b⟩ := runTo_t l ins ins.length (Nat.le_refl _)
    simp only [if_true]
    split
    · omega
    · omega
/-- The made replay ahead of its tag. -/
def baseRep (l : Lev) (pl : Int) (ins : List Inp) : Rep := ⟨l.id, pl, max (scoreR l ins) 0, ins, hashesR l ins, 0⟩
def makeRep (l : Lev) (pl key : Int) (ins : List Inp) : Rep := ⟨l.id, pl, max (scoreR l ins) 0, ins, hashesR l ins, tagL key (repList (baseRep l pl ins))⟩
def makeOk (l : Lev) (pl key : Int) (ins : List Inp) : Bool := runOk l ins && (inR 0 9 pl && inR 1 9999 key)
def zeroRep : Rep := ⟨0, 0, 0, [], [], 0⟩
def makeR (l : Lev) (pl key : Int) (ins : List Inp) : Rep := if makeOk l pl key ins then makeRep l pl key ins else zeroRep
theorem makeOk_iff {l : Lev} {pl key : Int} {ins : List Inp} : makeOk l pl key ins = true ↔ runOk l ins = true ∧ (0 ≤ pl ∧ pl ≤ 9) ∧ (1 ≤ key ∧ key ≤ 9999) := by
  simp only [makeOk, Bool.and_eq_true, inR_iff]
theorem tagL_bd (key : Int) (l : List Int) : 0 ≤ tagL key l ∧ tagL key l ≤ 1000002 := hstep_bd _ _
theorem replayOk_mk {l : Lev} {pl t : Int} {ins : List Inp} (h : runOk l ins = true) (hp : 0 ≤ pl ∧ pl ≤ 9) (ht : 0 ≤ t ∧ t ≤ 1000002) : replayOk ⟨l.id, pl, max (scoreR l ins) 0, ins, hashesR l ins, t⟩ = true := by
  obtain ⟨_, h60, _, hv, _⟩ := runOk_bd h
  obtain ⟨hi, _⟩ := levOk_iff.1 (runOk_iff.1 h).1
  have hs := scoreR_bd l ins
  simp only [replayOk, Bool.and_eq_true]
  refine ⟨inR_iff.2 hi, inR_iff.2 hp, inR_iff.2 (by omega), inputsOkB_iff.2 ⟨hv, h60⟩, ?_, hashB_iff.2 ht, ?_⟩
  · unfold lenB
    rw [hashesR_len h]
    simp
  · rw [List.all_eq_true]
    intro x hx
    exact hashB_iff.2 (hashesR_ok l ins x hx)
theorem baseRep_ok {l : Lev} {pl : Int} {ins : List Inp} (h : runOk l ins = true) (hp : 0 ≤ pl ∧ pl ≤ 9) : replayOk (baseRep l pl ins) = true := replayOk_mk h hp (by omega)
theorem makeRep_ok {l : Lev} {pl key : Int} {ins : List Inp} (h : makeOk l pl key ins = true) : replayOk (makeRep l pl key ins) = true := by
  obtain ⟨h1, h2, _⟩ := makeOk_iff.1 h
  exact replayOk_mk h1 h2 (tagL_bd _ _)
theorem code_bd {x : Inp} (h : inpOk x = true) : 0 ≤ code x ∧ code x ≤ 9 := by
  have h' := inpOk_bd h
  obtain ⟨s, p, z⟩ := x
  simp only at h'
  cases z <;> simp [code] <;> omega
/-- The numbers that are tagged are small. -/
theorem repList_bd {r : Rep} (h : replayOk r = true) : ∀ x ∈ repList r, 0 ≤ x ∧ x ≤ 1000002 := by
  simp only [replayOk, Bool.and_eq_true, inR_iff] at h
  obtain ⟨h1, h2, h3, h4, h5, h6, h7⟩ := h
  obtain ⟨hv, hl⟩ := inputsOkB_iff.1 h4
  intro x hx
  unfold repList repHead at hx
  simp only [List.mem_append, List.mem_cons, List.not_mem_nil, or_false, List.mem_map] at hx
  rcases hx with ((rfl | rfl | rfl | rfl) | ⟨y, hy, rfl⟩) | hx
  · omega
  · omega
  · omega
  · omega
  · have := code_bd (hv y hy); omega
  · exact hashB_iff.1 (List.all_eq_true.1 h7 x hx)
theorem repList_len (r : Rep) : (repList r).length = 4 + r.ins.length + r.hs.length := by
  simp [repList, repHead]; omega
end Go.Proofs.YtdpoicfciogfnaaDoor

/- Plain laws of runs: prefixes, ends, gates, pauses. No program is named here. (Round B) -/
namespace Go.Proofs.YtdpoicfciogfnaaDoor
open Go.RowKit
theorem legal_no {l : Lev} {ins : List Inp} (h : legal l ins < 0) : ∀ j, j < ins.length → badAt l ins j = false := by
  rcases legal_cases l ins with ⟨_, h2⟩ | ⟨k, _, h2, _⟩
  · exact h2
  · omega
theorem runOk_iff2 {l : Lev} {ins : List Inp} : runOk l ins = true ↔ levOk l = true ∧ ∀ j, j < ins.length → badAt l ins j = false := by
  unfold runOk
  rw [Bool.and_eq_true, decide_eq_true_eq]
  constructor
  · rintro ⟨h1, h2⟩; exact ⟨h1, legal_no h2⟩
  · rintro ⟨h1, h2⟩; exact ⟨h1, by rw [legal_none h2]; omega⟩
theorem badAt_take {l : Lev} {ins : List Inp} {n k : Nat} (h : k < n) : badAt l (ins.take n) k = badAt l ins k := by
  unfold badAt
  rw [List.getElem?_take_of_lt h, List.take_take, List.take_take, Nat.min_eq_left (by omega), Nat.min_eq_left (by omega)]
theorem runOk_take {l : Lev} {ins : List Inp} (h : runOk l ins = true) (n : Nat) : runOk l (ins.take n) = true := by
  obtain ⟨h1, h2⟩ := runOk_iff2.1 h
  refine runOk_iff2.2 ⟨h1, fun j hj => ?_⟩
  rw [List.length_take] at hj
  rw [badAt_take (by omega)]
  exact h2 j (by omega)
theorem step_ended {l : Lev} {s : St} (x : Inp) (h : s.dn = true ∨ s.ov = true) : stepS l s x = s := by
  unfold stepS
  rw [if_pos (by rcases h with h | h <;> simp [h])]
theorem runTo_over (l : Lev) (ins : List Inp) (n : Nat) (h : ins.length ≤ n) : runTo l ins n = runTo l ins ins.length := by
  unfold runTo
  rw [List.take_of_length_le h, List.take_of_length_le (Nat.le_refl _)]
/-- What has ended stays as it is. -/
theorem ended_stays {l : Lev} {ins : List Inp} {j : Nat} (h : (runTo l ins j).dn = true ∨ (runTo l ins j).ov = true) : ∀ k, runTo l ins (j + k) = runTo l ins j
  | 0 => rfl
  | k + 1 => by
    have ih := ended_stays h k
    rcases Nat.lt_or_ge (j + k) ins.length with hlt | hge
    · rw [← Nat.add_assoc, runTo_succ (List.getElem?_eq_getElem hlt), ih]
      exact step_ended _ h
    · rw [← ih, runTo_over l ins (j + (k + 1)) (by omega), runTo_over l ins (j + k) hge]
/-- A run that has finished, or left the range, has done so at its tick. -/
theorem done_at {l : Lev} {ins : List Inp} : ∀ n, n ≤ ins.length → (runTo l ins n).dn = true ∨ (runTo l ins n).ov = true →
    ∃ t : Nat, (runTo l ins n).t = t ∧ 1 ≤ t ∧ t ≤ n ∧ runTo l ins t = runTo l ins n ∧ ∀ j, j < t → (runTo l ins j).dn = false ∧ (runTo l ins j).ov = false
  | 0, _, h => by simp [runTo_zero, st0] at h
  | n + 1, hn, h => by
    have hx : ins[n]? = some (ins[n]'(by omega)) := List.getElem?_eq_getElem _
    by_cases hd : (runTo l ins n).dn = true ∨ (runTo l ins n).ov = true
    · have e : runTo l ins (n + 1) = runTo l ins n := ended_stays hd 1
      rw [e]
      obtain ⟨t, h1, h2, h3, h4, h5⟩ := done_at n (by omega) hd
      exact ⟨t, h1, h2, by omega, h4, h5⟩
    · have hnd : (runTo l ins n).dn = false ∧ (runTo l ins n).ov = false := by simpa [not_or] using hd
      refine ⟨n + 1, ?_, by omega, Nat.le_refl _, rfl, fun j hj => ?_⟩
      · obtain ⟨_, h2⟩ := runTo_t l ins n (by omega)
        rw [hnd.1, hnd.2] at h2
        simp only [Bool.false_eq_true, or_self, and_false, or_false] at h2
        rw [runTo_succ hx]
        rcases step_t l (runTo l ins n) (ins[n]'(by omega)) with ⟨ha, _⟩ | ⟨_, _, hc⟩
        · exact absurd ha hd
        · rw [hc, h2]; simp
      · by_cases hj2 : (runTo l ins j).dn = true ∨ (runTo l ins j).ov = true
        · have e := ended_stays hj2 (n - j)
          rw [show j + (n - j) = n by omega] at e
          rw [e] at hnd
          rw [hnd.1, hnd.2] at hj2
          simp at hj2
        · simpa [not_or] using hj2
theorem step_fin {l : Lev} {s : St} (x : Inp) (h : s.dn = true → hasV l.fin s.p = true) : (stepS l s x).dn = true → hasV l.fin (stepS l s x).p = true := by
  unfold stepS
  split
  · exact h
  · split
    · exact h
    · unfold driveS
      simp only
      split
      · intro hd
        simp only [Bool.and_eq_true] at hd
        exact hd.2
      · exact h
theorem foldl_fin {l : Lev} : ∀ (ins : List Inp) (s : St), (s.dn = true → hasV l.fin s.p = true) → (ins.foldl (stepS l) s).dn = true → hasV l.fin (ins.foldl (stepS l) s).p = true
  | [], _, h => h
  | x :: ins, _, h => foldl_fin ins _ (step_fin x h)
/-- Who has finished is at the finish. -/
theorem runTo_fin {l : Lev} (ins : List Inp) (n : Nat) : (runTo l ins n).dn = true → hasV l.fin (runTo l ins n).p = true := foldl_fin _ _ (by intro h; cases h)
theorem scoreR_pos {l : Lev} {ins : List Inp} (h : 0 ≤ scoreR l ins) : runOk l ins = true ∧ (runTo l ins ins.length).dn = true ∧ scoreR l ins = (runTo l ins ins.length).t := by
  unfold scoreR at h ⊢
  split at h
  · rename_i h1
    split at h
    · rename_i h2
      rw [if_pos h1, if_pos h2]
      exact ⟨h1, h2, rfl⟩
    · omega
  · omega
/-- A score: the tick at which the run has finished. -/
theorem score_at {l : Lev} {ins : List Inp} (h : 0 ≤ scoreR l ins) : ∃ t : Nat, scoreR l ins = t ∧ 1 ≤ t ∧ t ≤ ins.length ∧ runTo l ins t = runTo l ins ins.length ∧ (runTo l ins t).dn = true ∧ (runTo l ins t).t = t ∧ (∀ j, j < t → (runTo l ins j).dn = false) ∧ runOk l ins = true := by
  obtain ⟨h1, h2, h3⟩ := scoreR_pos h
  obtain ⟨t, k1, k2, k3, k4, k5⟩ := done_at ins.length (Nat.le_refl _) (.inl h2)
  exact ⟨t, by rw [h3, k1], k2, k3, k4, by rw [k4]; exact h2, by rw [k4]; exact k1, fun j hj => (k5 j hj).1, h1⟩
theorem scoreR_take {l : Lev} {ins : List Inp} {n : Nat} (hr : runOk l ins = true) (hn : n ≤ ins.length) : scoreR l (ins.take n) = if (runTo l ins n).dn then (runTo l ins n).t else -1 := by
  unfold scoreR
  rw [runOk_take hr n, if_pos rfl, List.length_take, Nat.min_eq_left hn, runTo_take (Nat.le_refl _)]
theorem score_cut {l : Lev} {ins : List Inp} {t : Nat} (h : scoreR l ins = t) : t ≤ ins.length ∧ scoreR l (ins.take t) = t ∧ (1 ≤ t → scoreR l (ins.take (t - 1)) = -1) := by
  obtain ⟨t', h1, h2, h3, h4, h5, h6, h7, h8⟩ := score_at (l := l) (ins := ins) (by omega)
  obtain rfl : t' = t := by omega
  refine ⟨h3, ?_, fun _ => ?_⟩
  · rw [scoreR_take h8 h3, h5, if_pos rfl, h6]
  · rw [scoreR_take h8 (by omega), h7 _ (by omega)]; rfl
theorem hashesR_cut {l : Lev} {ins : List Inp} (hr : runOk l ins = true) {n : Nat} (hn : n ≤ ins.length) : hashesR l (ins.take n) = (hashesR l ins).take (n / 5) ∧ (hashesR l (ins.take n)).length = n / 5 := by
  have e : hashesR l (ins.take n) = hashesTo l (ins.take n) (n / 5) := by
    unfold hashesR
    rw [runOk_take hr n, if_pos rfl, List.length_take, Nat.min_eq_left hn]
  rw [e]
  refine ⟨?_, hashesTo_len _ _ _⟩
  unfold hashesR
  rw [hr, if_pos rfl]
  unfold hashesTo
  rw [← List.map_take, List.take_range, Nat.min_eq_left (Nat.div_le_div_right hn)]
  refine List.map_congr_left fun i hi => ?_
  rw [List.mem_range] at hi
  rw [runTo_take (by omega)]
theorem hashesR_at {l : Lev} {ins : List Inp} {k : Nat} (hr : runOk l ins = true) (hk : k < ins.length / 5) : (hashesR l ins)[k]? = some (hashS (runTo l ins (5 * (k + 1)))) := by
  unfold hashesR
  rw [hr, if_pos rfl]
  unfold hashesTo
  rw [List.getElem?_map, List.getElem?_range hk]
  rfl
/-- Every state of a run is valid. -/
theorem run_valid {l : Lev} {ins : List Inp} (hr : runOk l ins = true) (n : Nat) (hn : n ≤ ins.length) : validB l (runTo l ins n) = true := by
  obtain ⟨hL, _⟩ := runOk_iff2.1 hr
  obtain ⟨_, h60, ht, _, _⟩ := runOk_bd hr
  have hl := levOk_iff.1 hL
  obtain ⟨t0, t1⟩ := runTo_t l ins n hn
  exact sOk_valid hL (runTo_ok ins n hl.2.2.1) t0 (by omega) (runTo_free ins n hl.2.2.2.2.2.2.2.2.2)
theorem valid_own {l : Lev} {s : St} (h : validB l s = true) : ownB s = true := (validB_iff.1 h).2.1
/-- The next tick of a run can be reckoned. -/
theorem run_next {l : Lev} {ins : List Inp} (hr : runOk l ins = true) (n : Nat) (x : Inp) (hx : ins[n]? = some x) : inpOk x = true ∧ ((runTo l ins n).t = l.ticks → (runTo l ins n).dn = true ∨ (runTo l ins n).ov = true) := by
  have hn := (List.getElem?_eq_some_iff.1 hx).1
  obtain ⟨_, h60, ht, hi, _⟩ := runOk_bd hr
  refine ⟨hi x (List.mem_of_getElem? hx), fun e => ?_⟩
  obtain ⟨t0, t1⟩ := runTo_t l ins n (by omega)
  rcases t1 with t1 | t1
  · omega
  · exact t1.2
/-! ### gates -/
/-- How many gates a path passes, one after the other. -/
def passL (gs : List Bx) (k : Nat) (p : V2) : Nat := if (gs[k]?.map fun b => hasV b p).getD false then k + 1 else k
def passTo (l : Lev) (ins : List Inp) : Nat → Nat
  | 0 => 0
  | i + 1 => passL l.gates (passTo l ins i) (runTo l ins (i + 1)).p
theorem passL_le {gs : List Bx} {k : Nat} {p : V2} (h : k ≤ gs.length) : passL gs k p ≤ gs.length ∧ k ≤ passL gs k p := by
  unfold passL
  split
  · rename_i h1
    rcases Nat.lt_or_ge k gs.length with hlt | hge
    · omega
    · rw [List.getElem?_eq_none hge] at h1; simp at h1
  · omega
theorem passTo_le (l : Lev) (ins : List Inp) : ∀ i, passTo l ins i ≤ l.gates.length
  | 0 => Nat.zero_le _
  | i + 1 => (passL_le (passTo_le l ins i)).1
theorem step_gate (l : Lev) (s : St) (x : Inp) : (stepS l s x).g = s.g ∨ (stepS l s x).g = s.g + 1 ∧ gateB l s.g (stepS l s x).p = true := by
  unfold stepS
  split
  · exact .inl rfl
  · split
    · exact .inl rfl
    · unfold driveS
      simp only
      split
      · split
        · rename_i h; exact .inr ⟨rfl, h⟩
        · exact .inl rfl
      · exact .inl rfl
theorem gateB_at {l : Lev} {g : Nat} {p : V2} (h : gateB l g p = true) : passL l.gates g p = g + 1 := by
  unfold gateB at h
  rw [Int.toNat_natCast] at h
  unfold passL
  cases e : l.gates[g]? with
  | none => rw [e] at h; cases h
  | some b =>
    rw [e] at h
    simp only [Bool.and_eq_true] at h
    simp [h.2]
/-- The path passes at least the gates that the run has passed. -/
theorem passTo_ge {l : Lev} {ins : List Inp} (hv : vOk l.start = true) : ∀ i, i ≤ ins.length → (runTo l ins i).g ≤ passTo l ins i
  | 0, _ => by simp [runTo_zero, st0]
  | i + 1, hi => by
    have ih := passTo_ge (ins := ins) hv i (by omega)
    have hx : ins[i]? = some (ins[i]'(by omega)) := List.getElem?_eq_getElem _
    have hs := runTo_ok ins i hv
    have hle := passTo_le l ins i
    have hm := (passL_le (p := (runTo l ins (i + 1)).p) hle).2
    have hp : passTo l ins (i + 1) = passL l.gates (passTo l ins i) (runTo l ins (i + 1)).p := rfl
    rcases step_gate l (runTo l ins i) (ins[i]'(by omega)) with h | ⟨h, h2⟩
    · rw [runTo_succ hx, h]; rw [runTo_succ hx] at hp hm; omega
    · rw [← runTo_succ hx] at h h2
      obtain ⟨g, hg⟩ := Int.eq_ofNat_of_zero_le hs.g0
      rw [hg] at h h2 ih
      rw [h]
      rcases Nat.lt_or_ge g (passTo l ins i) with hlt | hge
      · omega
      · have e : passTo l ins i = g := by omega
        rw [e, gateB_at h2] at hp
        omega
/-- Who has finished has passed all gates, one after the other. -/
theorem passed_all {l : Lev} {ins : List Inp} (hv : vOk l.start = true) (hd : (runTo l ins ins.length).dn = true) : passTo l ins ins.length = l.gates.length := by
  have h1 := passTo_ge (ins := ins) hv ins.length (Nat.le_refl _)
  have h2 := (runTo_ok ins ins.length hv).dg hd
  have h3 := passTo_le l ins ins.length
  omega
/-! ### a pause ahead -/
def late (s : St) : St := ⟨s.t + 1, s.p, s.f, s.d, s.g, s.dn, s.ov⟩
def pauseI : Inp := ⟨0, 0, true⟩
theorem step_late (l : Lev) (s : St) (x : Inp) : stepS l (late s) x = late (stepS l s x) := by
  unfold stepS late
  simp only
  split
  · rfl
  · split
    · rfl
    · unfold driveS
      simp only
      split <;> rfl
theorem foldl_late (l : Lev) : ∀ (ins : List Inp) (s : St), ins.foldl (stepS l) (late s) = late (ins.foldl (stepS l) s)
  | [], _ => rfl
  | x :: ins, s => by rw [List.foldl_cons, List.foldl_cons, step_late, foldl_late l ins]
theorem runTo_pause (l : Lev) (ins : List Inp) (n : Nat) : runTo l (pauseI :: ins) (n + 1) = late (runTo l ins n) := by
  unfold runTo
  rw [List.take_succ_cons, List.foldl_cons, ← foldl_late]
  rfl
theorem score_pause {l : Lev} {ins : List Inp} (h : 0 ≤ scoreR l ins) (hr : runOk l (pauseI :: ins) = true) : scoreR l (pauseI :: ins) = scoreR l ins + 1 := by
  obtain ⟨h1, h2, h3⟩ := scoreR_pos h
  rw [h3]
  unfold scoreR
  rw [hr, if_pos rfl, List.length_cons, runTo_pause]
  unfold late
  rw [h2]; rfl
/-! ### one tick -/
theorem step_gate1 {l : Lev} {s : St} (x : Inp) (h : (stepS l s x).g ≠ s.g) : (stepS l s x).g = s.g + 1 ∧ gateB l s.g (stepS l s x).p = true := by
  rcases step_gate l s x with h1 | h1
  · exact absurd h1 h
  · exact h1
theorem step_far {l : Lev} {s : St} (x : Inp) (h : fOk s.f) : (-2000 ≤ (stepS l s x).p.x - s.p.x ∧ (stepS l s x).p.x - s.p.x ≤ 2000) ∧ (-2000 ≤ (stepS l s x).p.y - s.p.y ∧ (stepS l s x).p.y - s.p.y ≤ 2000) := by
  unfold stepS
  split
  · omega
  · split
    · simp only; omega
    · unfold driveS
      simp only
      split
      · have := moveV_bd (l := l) (p := s.p) (fastV_ok (turnOf s.d x.s) x.p h)
        simp only; omega
      · simp only; omega
theorem step_nowall {l : Lev} {s : St} {pw : Int} (hw : l.walls = []) (hd : s.dn = false) (ho : s.ov = false) (h2 : (stepS l s ⟨0, pw, false⟩).ov = false) : (stepS l s ⟨0, pw, false⟩).f = fastV s.f (turnOf s.d 0) pw := by
  have hf : ∀ v, freeB l v = true := by intro v; unfold freeB; rw [hw]; rfl
  unfold stepS at h2 ⊢
  simp only [hd, ho, Bool.or_self, Bool.false_eq_true, if_false] at h2 ⊢
  unfold driveS at h2 ⊢
  simp only at h2 ⊢
  split at h2
  · rename_i hv
    rw [if_pos hv]
    simp only
    unfold moveV moveX
    rw [if_pos (hf _)]
    unfold moveY
    rw [if_pos (hf _)]
  · cases h2
theorem brake_less (f : V2) (d : Int) : lenV (fastV f d 2) ≤ lenV (fastV f d 0) := by
  unfold fastV
  simp only [show ¬ ((2 : Int) = 1) by omega, show ¬ ((0 : Int) = 1) by omega, show ¬ ((0 : Int) = 2) by omega, if_false, if_true]
  exact lenV_mono (mul1_mono (by omega) (by omega)) (mul1_mono (by omega) (by omega))
end Go.Proofs.YtdpoicfciogfnaaDoor
