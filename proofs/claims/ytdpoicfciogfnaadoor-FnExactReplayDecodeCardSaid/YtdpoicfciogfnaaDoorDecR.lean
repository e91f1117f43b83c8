/- Texts of replays read: the reference's l23Read, plain. (Seat D) -/
import Derived.Test.YtdpoicfciogfnaaDoorDecL
import Derived.Test.YtdpoicfciogfnaaDoorSpecL
namespace Go.Proofs.YtdpoicfciogfnaaDoor
open Go.ChangeShapes Go.WideShapes Go.ChangeAt Go.RowKit
def unpair : List Int → List Prt
  | a :: b :: l => ⟨a, b⟩ :: unpair l
  | _ => []
theorem unpair_len : ∀ l : List Int, (unpair l).length = l.length / 2
  | [] => rfl
  | [_] => by simp [unpair]
  | a :: b :: l => by
    have := unpair_len l
    simp only [unpair, List.length_cons]
    omega
theorem unpair_at : ∀ (l : List Int) (k : Nat) (p : Prt), (unpair l)[k]? = some p → l[2 * k]? = some p.c ∧ l[2 * k + 1]? = some p.m
  | [], k, p, h => by simp [unpair] at h
  | [_], k, p, h => by simp [unpair] at h
  | a :: b :: l, 0, p, h => by
    simp only [unpair, List.getElem?_cons_zero, Option.some.injEq] at h
    subst h
    exact ⟨rfl, rfl⟩
  | a :: b :: l, k + 1, p, h => by
    simp only [unpair, List.getElem?_cons_succ] at h
    have := unpair_at l k p h
    rw [show 2 * (k + 1) = 2 * k + 1 + 1 by omega]
    simpa using this
/-- Four lines' numbers as a replay, if it is one. -/
def readP (L1 L2 L3 L4 : List Int) : Rep := ⟨L1.getD 0 0, L1.getD 1 0, L1.getD 2 0, inputsOf (unpair L2), L3, L4.getD 0 0⟩
def readB (p1 p2 p3 p4 : List Int × Bool) : Bool := p1.2 && p2.2 && p3.2 && p4.2 && p1.1.length == 3 && p2.1.length % 2 == 0 && p4.1.length == 1
def readS (p1 p2 p3 p4 : List Int × Bool) : Option Rep :=
  if readB p1 p2 p3 p4 && (goodParts (unpair p2.1) && replayOk (readP p1.1 p2.1 p3.1 p4.1)) then some (readP p1.1 p2.1 p3.1 p4.1) else none
/-- What the reference hands back of a text: nothing, or a replay. -/
def RetRd (o : Option Rep) (w : World) (e : Ending) (w' : World) : Prop :=
  ∃ r b, RetRepB r b w e w' ∧ o = (if b then some r else none) ∧ r.ins.length ≤ 60 ∧ r.hs.length ≤ 1048576
theorem lineP_len {word L : List UInt8} (h : L.length ≤ 1048576) : (lineP word L).1.length ≤ 1048576 := by
  have h1 := numsOf_len (cutL 32 L).tail
  have h2 := cutL_len 32 L
  simp only [List.length_tail] at h1
  unfold lineP
  simp only
  omega
theorem inputsOf_60 (ps : List Prt) : (inputsOf ps).length ≤ 60 := by
  cases h : goodParts ps
  · unfold inputsOf; rw [h]; simp
  · exact (partsL_inputs h).2.2
theorem readB_no {L0 L1 L2 L3 : List Int} {b0 b1 b2 b3 : Bool} (h : readB (L0, b0) (L1, b1) (L2, b2) (L3, b3) = false) :
    b0 = false ∨ (b0 = true ∧ b1 = false) ∨ (b0 = true ∧ b1 = true ∧ b2 = false) ∨ (b0 = true ∧ b1 = true ∧ b2 = true ∧ b3 = false) ∨
    (b0 = true ∧ b1 = true ∧ b2 = true ∧ b3 = true ∧ (L0.length : Int) ≠ 3) ∨ (b0 = true ∧ b1 = true ∧ b2 = true ∧ b3 = true ∧ (L0.length : Int) = 3 ∧ (L1.length : Int).tmod 2 = 1) ∨
    (b0 = true ∧ b1 = true ∧ b2 = true ∧ b3 = true ∧ (L0.length : Int) = 3 ∧ (L1.length : Int).tmod 2 = 0 ∧ (L3.length : Int) ≠ 1) := by
  cases b0 <;> cases b1 <;> cases b2 <;> cases b3 <;> simp [readB] at h ⊢
  rw [Int.tmod_eq_emod_of_nonneg (by omega)]
  omega
theorem readB_yes {L0 L1 L2 L3 : List Int} {b0 b1 b2 b3 : Bool} (h : readB (L0, b0) (L1, b1) (L2, b2) (L3, b3) = true) :
    b0 = true ∧ b1 = true ∧ b2 = true ∧ b3 = true ∧ L0.length = 3 ∧ L1.length = 2 * (unpair L1).length ∧ L3.length = 1 := by
  rw [unpair_len]
  simp [readB] at h
  obtain ⟨⟨⟨⟨⟨⟨h1, h2⟩, h3⟩, h4⟩, h5⟩, h6⟩, h7⟩ := h
  exact ⟨h1, h2, h3, h4, h5, by omega, h7⟩
theorem keepQ {w w' : World} {a0 a1 a2 a3 : Addr} {u0 u1 u2 u3 : Value} (h0 : w.cell? a0 = some u0) (h1 : w.cell? a1 = some u1) (h2 : w.cell? a2 = some u2) (h3 : w.cell? a3 = some u3)
    (b0 : a0.block < w.heap.size) (b1 : a1.block < w.heap.size) (b2 : a2.block < w.heap.size) (b3 : a3.block < w.heap.size) (h : Below w.heap.size w w') :
    w'.cell? a0 = some u0 ∧ w'.cell? a1 = some u1 ∧ w'.cell? a2 = some u2 ∧ w'.cell? a3 = some u3 :=
  ⟨(h.cell b0).trans h0, (h.cell b1).trans h1, (h.cell b2).trans h2, (h.cell b3).trans h3⟩
theorem ownNe2 {α β : Type} {w : World} {B B' : Nat} {T T' : TypeId} {sz sz' : Nat} {enc : α → List Value} {enc' : β → List Value} {v v' : Value} {l : List α} {l' : List β} (h : Own w B T sz enc v l) (h' : Own w B' T' sz' enc' v' l') (hT : T ≠ T') :
    ∀ g g', v.ownBlock = some g → v'.ownBlock = some g' → g ≠ g' := by
  intro g g' e e' e2
  subst e2
  rcases h.2 with ⟨rfl, _⟩ | ⟨g2, cap, cur, rfl, hB, hgg, rest⟩
  · cases e
  rcases h'.2 with ⟨rfl, _⟩ | ⟨g3, cap3, cur3, rfl, hB3, hgg3, rest3⟩
  · cases e'
  simp only [Value.ownBlock, Option.some.injEq] at e e'
  subst e
  subst e'
  rw [hgg] at hgg3
  injection hgg3 with h1
  injection h1 with _ h2
  exact hT h2
theorem list3 {L : List Int} (h : L.length = 3) : ∃ a b c, L = [a, b, c] := by
  match L, h with
  | [a, b, c], _ => exact ⟨a, b, c, rfl⟩
def hidLd (o : Operand) : Op := Op.load 30 o
attribute [local go_sem] hidLd
theorem Bk.c6' {w : World} {g : Nat} {t : TypeId} {v0 v1 v2 v3 v4 v5 : Value} (h : Bk w g t #[v0, v1, v2, v3, v4, v5]) : (w.cell? ⟨g, 0, none⟩ = some (v0) ∧ w.cell? ⟨g, 1, none⟩ = some (v1) ∧ w.cell? ⟨g, 2, none⟩ = some (v2) ∧ w.cell? ⟨g, 3, none⟩ = some (v3) ∧ w.cell? ⟨g, 4, none⟩ = some (v4) ∧ w.cell? ⟨g, 5, none⟩ = some (v5)) := h.c6.1
theorem Tryd.infoP2 : (Tryd.prog.info? 49).map (fun i => (i.zero, i.size, i.bytes)) = some (some (.agg #[.int .i64 0, .int .i64 0]), 2, 16) := by kernel_rfl
set_option maxRecDepth 100000 in
set_option maxHeartbeats 4000000 in
theorem l23Read_any (A : Option Addr) (c : Nat) (l0 l1 l2 l3 l4 : List UInt8) (w : World) (h : Sl w 1 encStr A 5 [l0, l1, l2, l3, l4]) (h0 : l0.length ≤ 1048576) (h1 : l1.length ≤ 1048576) (h2 : l2.length ≤ 1048576) (h3 : l3.length ≤ 1048576) :
    Calls Tryd.prog 29 #[.slice A 5 c] w (RetRd (readS (lineP wReplay l0) (lineP wInputs l1) (lineP wHashes l2) (lineP wTag l3)) w) := by
  obtain ⟨b, off, y0, rfl, hbl, hy0, hc0⟩ := h.at_ (k := 0) (by decide)
  obtain ⟨b', off', y1, e1, _, hy1, hc1⟩ := h.at_ (k := 1) (by decide)
  cases e1
  obtain ⟨b', off', y2, e1, _, hy2, hc2⟩ := h.at_ (k := 2) (by decide)
  cases e1
  obtain ⟨b', off', y3, e1, _, hy3, hc3⟩ := h.at_ (k := 3) (by decide)
  cases e1
  obtain rfl : l0 = y0 := by simpa using hy0
  obtain rfl : l1 = y1 := by simpa using hy1
  obtain rfl : l2 = y2 := by simpa using hy2
  obtain rfl : l3 = y3 := by simpa using hy3
  have q0 : w.cell? ⟨b, off, none⟩ = some (.string (st l0)) := by simpa using hc0 0 _ rfl
  have q1 : w.cell? ⟨b, off + 1, none⟩ = some (.string (st l1)) := by simpa using hc1 0 _ rfl
  have q2 : w.cell? ⟨b, off + 2, none⟩ = some (.string (st l2)) := by simpa using hc2 0 _ rfl
  have q3 : w.cell? ⟨b, off + 3, none⟩ = some (.string (st l3)) := by simpa using hc3 0 _ rfl
  clear hy0 hy1 hy2 hy3 hc0 hc1 hc2 hc3 h
  have g0 := lineP_len (word := wReplay) h0
  have g1 := lineP_len (word := wInputs) h1
  have g2 := lineP_len (word := wHashes) h2
  have g3 := lineP_len (word := wTag) h3
  obtain ⟨P0, hP0⟩ : ∃ P, lineP wReplay l0 = P := ⟨_, rfl⟩
  obtain ⟨P1, hP1⟩ : ∃ P, lineP wInputs l1 = P := ⟨_, rfl⟩
  obtain ⟨P2, hP2⟩ : ∃ P, lineP wHashes l2 = P := ⟨_, rfl⟩
  obtain ⟨P3, hP3⟩ : ∃ P, lineP wTag l3 = P := ⟨_, rfl⟩
  rw [hP0] at g0 ⊢
  rw [hP1] at g1 ⊢
  rw [hP2] at g2 ⊢
  rw [hP3] at g3 ⊢
  have H0 := Lib.hid hP0
  have H1 := Lib.hid hP1
  have H2 := Lib.hid hP2
  have H3 := Lib.hid hP3
  clear hP0 hP1 hP2 hP3
  obtain ⟨L0, b0⟩ := P0
  obtain ⟨L1, b1⟩ := P1
  obtain ⟨L2, b2⟩ := P2
  obtain ⟨L3, b3⟩ := P3
  simp only at g0 g1 g2 g3
  obtain ⟨i0, hi, hz0, hz1, hz2⟩ := info_parts Tryd.infoP2
  go_enter Tryd.func29, Tryd.ntmps29
  go_wp2_with fail
  refine (l23Line_any l0 wReplay _ h0).mono ?_
  rw [H0.out]
  rintro e w1 ⟨A0, c0, rfl, O0, hb1⟩
  have B1 : Below w.heap.size w w1 := below_after (by (with_reducible repeat first | assumption | exact bl0 _ _ | refine blA ?_ _ | (refine blS ?_ ?_ _; (simp <;> omega)) | refine blD ?_ | refine blN ?_ _ | refine blF ?_ ‹_›)) hb1
  have R1 : Bk w1 w.heap.size 30 #[.int .i64 0, .int .i64 0, .int .i64 0, .slice none 0 0, .slice none 0 0, .int .i64 0] := (Bk.new w _ _ rfl).later hb1
  have y1 := B1.size
  have S0 := O0.sl' encInt_len
  have p1 := (B1.cell (p := ⟨b, off + 1, none⟩) hbl).trans q1
  clear hb1 q0 O0
  go_wp2_with fail
  refine (l23Line_any l1 wInputs _ h1).mono ?_
  rw [H1.out]
  rintro e w2 ⟨A1, c1, rfl, O1, hb2⟩
  have B2 : Below w.heap.size w w2 := below_after B1 hb2
  have R2 := R1.later hb2
  have zz2 := R2.lt
  have y2 := B2.size
  have T0_1 := S0.below hb2
  have S1 := O1.sl' encInt_len
  have p2 := (B2.cell (p := ⟨b, off + 2, none⟩) hbl).trans q2
  clear hb2 q1 O1 B1 R1 p1
  go_wp2_with fail
  refine (l23Line_any l2 wHashes _ h2).mono ?_
  rw [H2.out]
  rintro e w3 ⟨A2, c2, rfl, O2, hb3⟩
  have B3 : Below w.heap.size w w3 := below_after B2 hb3
  have R3 := R2.later hb3
  have y3 := B3.size
  have T0_2 := T0_1.below hb3
  have T1_2 := S1.below hb3
  have S2 := O2.sl' encInt_len
  have p3 := (B3.cell (p := ⟨b, off + 3, none⟩) hbl).trans q3
  clear hb3 q2 B2 R2 p2
  go_wp2_with fail
  refine (l23Line_any l3 wTag _ h3).mono ?_
  rw [H3.out]
  rintro e w4 ⟨A3, c3, rfl, O3, hb4⟩
  have B4 : Below w.heap.size w w4 := below_after B3 hb4
  have R4 := R3.later hb4
  have y4 := B4.size
  have T0_3 := T0_2.below hb4
  have T1_3 := T1_2.below hb4
  have T2_3 := S2.below hb4
  have O2' := (O2.later hb4).mono (B' := w.heap.size + 1) (by omega)
  have S3 := O3.sl' encInt_len
  clear hb4 q3 O3 B3 R3 O2 p3
  clear h0 h1 h2 h3 hbl H0 H1 H2 H3
  simp only at T0_3 T1_3 S3 O2'
  have zR := R4.lt
  cases hB : readB (L0, b0) (L1, b1) (L2, b2) (L3, b3)
  · have hN : readS (L0, b0) (L1, b1) (L2, b2) (L3, b3) = none := by unfold readS; rw [hB]; rfl
    obtain ⟨⟨x0, x1, x2, x3, x4, x5⟩, xf⟩ := R4.c6
    have hcs := readB_no hB
    clear hB T0_3 T1_3 S3 O2' R4
    rcases hcs with rfl | ⟨rfl, rfl⟩ | ⟨rfl, rfl, rfl⟩ | ⟨rfl, rfl, rfl, rfl⟩ | ⟨rfl, rfl, rfl, rfl, hl0⟩ | ⟨rfl, rfl, rfl, rfl, hl0, hl1⟩ | ⟨rfl, rfl, rfl, rfl, hl0, hl1, hl2⟩
    all_goals
      go_wp2
      exact bodyPost_ret (v := .tuple #[.agg #[.int .i64 0, .int .i64 0, .int .i64 0, .slice none 0 0, .slice none 0 0, .int .i64 0], .bool false]) (by simp [results, Tryd.results29, go_sem, *]) rfl ⟨zeroRep, false, ⟨none, 0, none, 0, rfl, Own.none_, Own.none_, by (with_reducible repeat first | assumption | exact bl0 _ _ | refine blA ?_ _ | (refine blS ?_ ?_ _; (simp <;> omega)) | refine blD ?_ | refine blN ?_ _ | refine blF ?_ ‹_›), fun g g' e => by cases e⟩, hN, by decide, by decide⟩
  · obtain ⟨rfl, rfl, rfl, rfl, hl0, hl1, hl3⟩ := readB_yes hB
    have hRS : readS (L0, true) (L1, true) (L2, true) (L3, true) = if goodParts (unpair L1) && replayOk (readP L0 L1 L2 L3) then some (readP L0 L1 L2 L3) else none := by unfold readS; rw [hB]; rfl
    clear hB
    have HU := Lib.hid (unpair_at L1)
    obtain ⟨ps, hps⟩ : ∃ ps, unpair L1 = ps := ⟨_, rfl⟩
    rw [hps] at hl1 HU hRS
    have HRS := Lib.hid hRS
    clear hRS
    have HPS := Lib.hid hps
    clear hps
    have t0 : (L0.length : Int) = 3 := by omega
    have t1 : (L1.length : Int).tmod 2 = 0 := by rw [Int.tmod_eq_emod_of_nonneg (by omega)]; omega
    have t3 : (L3.length : Int) = 1 := by omega
    have HL1 := Lib.hid hl1
    clear hl1
    go_wp2
    go_loopw [12, 13] (fun v i wr => ∃ k m : Nat, k ≤ ps.length ∧ m = 2 * k ∧ i = .int .i64 m ∧ Own wr w4.heap.size 49 2 encPrt v (ps.take k) ∧ Below w4.heap.size w4 wr) (fun _ i _ => 2 * ps.length - (intOf i).toNat)
    case atStart => exact ⟨0, 0, Nat.zero_le _, rfl, rfl, Own.nil_lit2 _ _ _ (Nat.le_refl _), below_alloc (Below.refl _ _) _⟩
    case round =>
      obtain ⟨k, m, hk, hm, rfl, ho, hb⟩ := hrel
      have hl1 := HL1.out
      have yb := hb.size
      by_cases hlt : k < ps.length
      · obtain ⟨p, hp⟩ : ∃ p, ps[k]? = some p := ⟨_, List.getElem?_eq_getElem hlt⟩
        obtain ⟨u1, u2⟩ := HU.out k p hp
        rw [← hm] at u1 u2
        obtain ⟨b', off', z1, rfl, hbl', hz1', hd1⟩ := T1_3.at_ (k := m) (by omega)
        obtain ⟨b'', off'', z2, e2, _, hz2', hd2⟩ := T1_3.at_ (k := m + 1) (by omega)
        cases e2
        have e3 : z1 = p.c := by rw [hz1'] at u1; exact Option.some.inj u1
        have e4 : z2 = p.m := by rw [hz2'] at u2; exact Option.some.inj u2
        subst e3 e4
        have q0 : w4.cell? ⟨b', off' + m, none⟩ = some (.int .i64 p.c) := by simpa using hd1 0 _ rfl
        have q1 : w4.cell? ⟨b', off' + (m + 1), none⟩ = some (.int .i64 p.m) := by simpa using hd2 0 _ rfl
        have HP := Lib.hid (show ps.take (k + 1) = ps.take k ++ [p] by rw [List.take_add_one, hp]; rfl)
        have HX := Lib.hid ho.lt
        have hl : (ps.take k).length = k := by rw [List.length_take]; omega
        have hmi : m < L1.length := by omega
        have hmi1 : m + 1 < L1.length := by omega
        have hmi2 : (m : Int) < (L1.length : Int) := by omega
        have hmi3 : (m : Int) + 1 < (L1.length : Int) := by omega
        have hw0 : IntKind.i64.wrap ((m : Int) + 1) = (m : Int) + 1 := by rw [IntKind.wrap_i64]; omega
        have hmi4 : (0 : Int) ≤ (m : Int) + 1 := by omega
        have hmi5 : ((m : Int) + 1).toNat = m + 1 := by omega
        have hmi6 : (0 : Int) ≤ (m : Int) := by omega
        have HM := Lib.hid (And.intro hm hl1)
        have hps : ps.length ≤ 1048576 := by omega
        clear u1 u2 hz1' hz2' hd1 hd2 hp hm hl1 T0_3 S3 O2' R4 t0 t1 t3
        go_wp2
        go_region_held3 (fun w' => w'.cell? ⟨b', off' + m, none⟩ = some (.int .i64 p.c) ∧ w'.cell? ⟨b', off' + (m + 1), none⟩ = some (.int .i64 p.m))
          (first | (with_reducible exact keepTwo q0 q1 hbl' hbl' (by (with_reducible repeat first | assumption | exact bl0 _ _ | refine blA ?_ _ | (refine blS ?_ ?_ _; (simp <;> omega)) | refine blD ?_ | refine blN ?_ _ | refine blF ?_ ‹_›))) | (with_reducible exact keepTwo q0 q1 hbl' hbl' hB2))
          ((refine step_appL rfl (.tmp 83) (.tmp 94) _ rfl w4.heap.size 49 i0 (.agg #[.int .i64 0, .int .i64 0]) 2 16 Tryd.underlying46 hi hz0 hz1 hz2 rfl (by decide) encPrt_len one_prt _ (ps.take k) [p] (by first | (simp [Act.eval]; done) | (simp [Act.eval]; rfl)) (own_drw (ho.alloc _)) _ 1 1 (by first | (simp [Act.eval]; done) | (simp [Act.eval]; rfl)) (sl_drw (Sl.one wr p _ _ rfl)) (by intro e; cases e) (by rw [hl]; unfold maxLen; omega) (by rw [hl]; omega) (by simp; omega) ?_; intro v2 w2 ho2 hg2 hv2; rw [← HP.out] at ho2; have hB2 : Below w4.heap.size w4 w2 := Below.grown (below_drew (below_alloc hb _)) hg2 (by simp; omega) (fun g e => (HX.out g e).1)))
        go_wp2
        go_roundw
        case rel => exact ⟨k + 1, m + 2, by omega, by have := HM.out; omega, by go_num, ho2, hB2⟩
        case measure => have := HM.out; simp [intOf]; omega
      · obtain rfl : k = ps.length := by omega
        rw [List.take_length] at ho
        have hnl : ¬ ((m : Int) < (L1.length : Int)) := by omega
        have hps : ps.length ≤ 1048576 := by omega
        have B5 : Below w.heap.size w wr := below_after B4 hb
        have R5 := R4.later hb
        have zR5 := R5.lt
        obtain ⟨A5, c5, rfl, hc5, _⟩ := ho.form
        have S5 := ho.sl' encPrt_len
        have T0 := T0_3.below hb
        have T3 := S3.below hb
        have OH := O2'.later hb
        clear hl1 hm HU T0_3 T1_3 S3 O2' R4 t1 ho
        go_wp2_with fail
        refine (specReplayInputs_any A5 c5 ps _ S5 (by omega)).mono ?_
        rintro e w6 ⟨A6, c6, rfl, hc6, O6, hb6⟩
        have B6 := below_after B5 hb6
        have R6 := R5.later hb6
        have U0 := T0.below hb6
        have U3 := T3.below hb6
        have OH6 := OH.later hb6
        have O6' := O6.mono (B' := w.heap.size + 1) zR5
        have h60 := inputsOf_60 ps
        obtain ⟨I, hI⟩ : ∃ I, inputsOf ps = I := ⟨_, rfl⟩
        rw [hI] at h60 O6' ⊢
        obtain ⟨z0, z1, z2, rfl⟩ := list3 hl0
        obtain ⟨z3, rfl⟩ := List.length_eq_one_iff.1 hl3
        have HRS2 := HRS.out
        rw [show readP [z0, z1, z2] L1 L2 [z3] = ⟨z0, z1, z2, I, L2, z3⟩ by unfold readP; rw [HPS.out, hI]; rfl] at HRS2
        have HR := Lib.hid HRS2
        have HI := Lib.hid hI
        obtain ⟨bA, oA, x0, e0, hbA, hx0, hd0⟩ := U0.at_ (k := 0) (by simp)
        obtain ⟨bA', oA', x1, e1, _, hx1, hd1⟩ := U0.at_ (k := 1) (by simp)
        rw [e0] at e1
        cases e1
        obtain ⟨bA', oA', x2, e2, _, hx2, hd2⟩ := U0.at_ (k := 2) (by simp)
        rw [e0] at e2
        cases e2
        obtain ⟨bT, oT, x3, e3, hbT, hx3, hd3⟩ := U3.at_ (k := 0) (by simp)
        subst e0 e3
        obtain rfl : z0 = x0 := by simpa using hx0
        obtain rfl : z1 = x1 := by simpa using hx1
        obtain rfl : z2 = x2 := by simpa using hx2
        obtain rfl : z3 = x3 := by simpa using hx3
        have q0 : w6.cell? ⟨bA, oA, none⟩ = some (.int .i64 z0) := by simpa using hd0 0 _ rfl
        have q1 : w6.cell? ⟨bA, oA + 1, none⟩ = some (.int .i64 z1) := by simpa using hd1 0 _ rfl
        have q2 : w6.cell? ⟨bA, oA + 2, none⟩ = some (.int .i64 z2) := by simpa using hd2 0 _ rfl
        have q3 : w6.cell? ⟨bT, oT, none⟩ = some (.int .i64 z3) := by simpa using hd3 0 _ rfl
        clear HRS HRS2 hI hx0 hx1 hx2 hx3 hd0 hd1 hd2 hd3 B5 R5 S5 T0 T3 OH O6 hb6 hb U0 U3 hl0 hl3
        go_wp2
        go_region_held3 (fun w' => w'.cell? ⟨bA, oA, none⟩ = some (.int .i64 z0) ∧ w'.cell? ⟨bA, oA + 1, none⟩ = some (.int .i64 z1) ∧ w'.cell? ⟨bA, oA + 2, none⟩ = some (.int .i64 z2) ∧ w'.cell? ⟨bT, oT, none⟩ = some (.int .i64 z3))
          ((with_reducible exact keepQ q0 q1 q2 q3 hbA hbA hbA hbT (by (with_reducible repeat first | assumption | exact bl0 _ _ | refine blA ?_ _ | (refine blS ?_ ?_ _; (simp <;> omega)) | refine blD ?_ | refine blN ?_ _ | refine blF ?_ ‹_›))))
          (fail)
        have z6 := R6.lt
        have N7 : Bk (w6.alloc (.cells #[.int .i64 z0, .int .i64 z1, .int .i64 z2, .slice A6 I.length c6, .slice A2 L2.length c2, .int .i64 z3] 30)).drew w6.heap.size 30 #[.int .i64 z0, .int .i64 z1, .int .i64 z2, .slice A6 I.length c6, .slice A2 L2.length c2, .int .i64 z3] := kD (kN w6 _ _ rfl)
        have R7 := kD (R6.alloc (.cells #[.int .i64 z0, .int .i64 z1, .int .i64 z2, .slice A6 I.length c6, .slice A2 L2.length c2, .int .i64 z3] 30))
        have B7 : Below w.heap.size w (w6.alloc (.cells #[.int .i64 z0, .int .i64 z1, .int .i64 z2, .slice A6 I.length c6, .slice A2 L2.length c2, .int .i64 z3] 30)).drew := by (with_reducible repeat first | assumption | exact bl0 _ _ | refine blA ?_ _ | (refine blS ?_ ?_ _; (simp <;> omega)) | refine blD ?_ | refine blN ?_ _ | refine blF ?_ ‹_›)
        have OI7 := own_drw (O6'.alloc (.cells #[.int .i64 z0, .int .i64 z1, .int .i64 z2, .slice A6 I.length c6, .slice A2 L2.length c2, .int .i64 z3] 30))
        have OH7 := own_drw (OH6.alloc (.cells #[.int .i64 z0, .int .i64 z1, .int .i64 z2, .slice A6 I.length c6, .slice A2 L2.length c2, .int .i64 z3] 30))
        generalize (w6.alloc (.cells #[.int .i64 z0, .int .i64 z1, .int .i64 z2, .slice A6 I.length c6, .slice A2 L2.length c2, .int .i64 z3] 30)).drew = w7 at N7 R7 B7 OI7 OH7 ⊢
        generalize w6.heap.size = N at N7 z6 ⊢
        clear R6 O6' OH6 q0 q1 q2 q3 B6 hbA hbT
        have zN := N7.lt
        have zR7 := R7.lt
        have hsep := ownNe2 OI7 OH7 (by decide)
        obtain ⟨⟨n0, n1, n2, n3, n4, n5⟩, nf⟩ := N7.c6
        obtain ⟨⟨x0, x1, x2, x3, x4, x5⟩, xf⟩ := R7.c6
        cases hgp : goodParts ps
        · have hR2 := HR.out
          rw [hgp] at hR2
          have HR3 := Lib.hid hR2
          clear hR2 hgp
          go_wp2
          rw [show Op.load 30 (.tmp 16) = hidLd (.tmp 16) from rfl]
          go_region_held3 (fun w' => Below w.heap.size w w' ∧ (w'.cell? ⟨N, 0, none⟩ = some (.int .i64 z0) ∧ w'.cell? ⟨N, 1, none⟩ = some (.int .i64 z1) ∧ w'.cell? ⟨N, 2, none⟩ = some (.int .i64 z2) ∧ w'.cell? ⟨N, 3, none⟩ = some (.slice A6 I.length c6) ∧ w'.cell? ⟨N, 4, none⟩ = some (.slice A2 L2.length c2) ∧ w'.cell? ⟨N, 5, none⟩ = some (.int .i64 z3)))
            ((with_reducible exact ⟨by (with_reducible repeat first | assumption | exact bl0 _ _ | refine blA ?_ _ | (refine blS ?_ ?_ _; (simp <;> omega)) | refine blD ?_ | refine blN ?_ _ | refine blF ?_ ‹_›), Bk.c6' (t := 30) (by (repeat first | (with_reducible first | assumption | exact kN _ _ _ (by first | assumption | simp <;> omega) | refine kA ?_ _ | refine kD ?_ | refine kW ?_ _ | apply Bk.set' | refine kF ?_ (by simp <;> omega) _) | exact ⟨by with_reducible rfl⟩ | exact ⟨by simp⟩))⟩))
            (fail)
          all_goals
            go_wp2
            exact bodyPost_ret (v := .tuple #[.agg #[.int .i64 z0, .int .i64 z1, .int .i64 z2, .slice A6 I.length c6, .slice A2 L2.length c2, .int .i64 z3], .bool false]) (by simp [results, Tryd.results29, go_sem, *]) rfl ⟨⟨z0, z1, z2, I, L2, z3⟩, false, ⟨A6, c6, A2, c2, rfl, Own.mono (B := w.heap.size + 1) (by (with_reducible repeat first | assumption | refine Own.fars ?_ ‹_› _ | refine Own.alloc ?_ _ | refine Own.drew ?_ | refine Own.drewN ?_ _ | refine Own.set (by first | omega | simp <;> omega) ?_ _ | refine Own.later ?_ ‹_› | refine Own.gk ?_ ‹_› (by omega))) (by omega), Own.mono (B := w.heap.size + 1) (by (with_reducible repeat first | assumption | refine Own.fars ?_ ‹_› _ | refine Own.alloc ?_ _ | refine Own.drew ?_ | refine Own.drewN ?_ _ | refine Own.set (by first | omega | simp <;> omega) ?_ _ | refine Own.later ?_ ‹_› | refine Own.gk ?_ ‹_› (by omega))) (by omega), by (with_reducible repeat first | assumption | exact bl0 _ _ | refine blA ?_ _ | (refine blS ?_ ?_ _; (simp <;> omega)) | refine blD ?_ | refine blN ?_ _ | refine blF ?_ ‹_›), hsep⟩, HR3.out, h60, g2⟩
        · have hR2 := HR.out
          rw [hgp] at hR2
          have HR3 := Lib.hid hR2
          have sI := OI7.sl' encInp_len
          have sH := OH7.sl' encInt_len
          clear hR2 hgp
          go_wp2
          go_region_held3 (fun w' => Below w.heap.size w w' ∧ (w'.cell? ⟨N, 0, none⟩ = some (.int .i64 z0) ∧ w'.cell? ⟨N, 1, none⟩ = some (.int .i64 z1) ∧ w'.cell? ⟨N, 2, none⟩ = some (.int .i64 z2) ∧ w'.cell? ⟨N, 3, none⟩ = some (.slice A6 I.length c6) ∧ w'.cell? ⟨N, 4, none⟩ = some (.slice A2 L2.length c2) ∧ w'.cell? ⟨N, 5, none⟩ = some (.int .i64 z3)))
            (first | (with_reducible exact ⟨by (with_reducible repeat first | assumption | exact bl0 _ _ | refine blA ?_ _ | (refine blS ?_ ?_ _; (simp <;> omega)) | refine blD ?_ | refine blN ?_ _ | refine blF ?_ ‹_›), Bk.c6' (t := 30) (by (repeat first | (with_reducible first | assumption | exact kN _ _ _ (by first | assumption | simp <;> omega) | refine kA ?_ _ | refine kD ?_ | refine kW ?_ _ | apply Bk.set' | refine kF ?_ (by simp <;> omega) _) | exact ⟨by with_reducible rfl⟩ | exact ⟨by simp⟩))⟩) | (with_reducible exact ⟨below_after (by (with_reducible repeat first | assumption | exact bl0 _ _ | refine blA ?_ _ | (refine blS ?_ ?_ _; (simp <;> omega)) | refine blD ?_ | refine blN ?_ _ | refine blF ?_ ‹_›)) hb8, N8.c6.1⟩))
            ((go_at_call 18; refine (specReplayValid_any A6 A2 c6 c2 ⟨z0, z1, z2, I, L2, z3⟩ _ (sI.below (by (with_reducible repeat first | assumption | exact bl0 _ _ | refine blA ?_ _ | (refine blS ?_ ?_ _; (simp <;> omega)) | refine blD ?_ | refine blN ?_ _ | refine blF ?_ ‹_›))) (sH.below (by (with_reducible repeat first | assumption | exact bl0 _ _ | refine blA ?_ _ | (refine blS ?_ ?_ _; (simp <;> omega)) | refine blD ?_ | refine blN ?_ _ | refine blF ?_ ‹_›))) (by dsimp only; omega) (by dsimp only; omega)).mono ?_; rintro e w8 ⟨rfl, hb8⟩; have N8 := (kD N7).later hb8; have R8 := (kD R7).later hb8; have OI8 := (own_drw OI7).later hb8; have OH8 := (own_drw OH7).later hb8; have B8 : Below w.heap.size w w8 := below_after (by (with_reducible repeat first | assumption | exact bl0 _ _ | refine blA ?_ _ | (refine blS ?_ ?_ _; (simp <;> omega)) | refine blD ?_ | refine blN ?_ _ | refine blF ?_ ‹_›)) hb8; have zR8 := R8.lt; obtain ⟨⟨n0, n1, n2, n3, n4, n5⟩, nf⟩ := N8.c6; obtain ⟨⟨x0, x1, x2, x3, x4, x5⟩, xf⟩ := R8.c6))
          all_goals
            go_wp2
            exact bodyPost_ret (v := .tuple #[.agg #[.int .i64 z0, .int .i64 z1, .int .i64 z2, .slice A6 I.length c6, .slice A2 L2.length c2, .int .i64 z3], .bool (replayOk ⟨z0, z1, z2, I, L2, z3⟩)]) (by simp [results, Tryd.results29, go_sem, *]) rfl ⟨⟨z0, z1, z2, I, L2, z3⟩, replayOk ⟨z0, z1, z2, I, L2, z3⟩, ⟨A6, c6, A2, c2, rfl, Own.mono (B := w.heap.size + 1) (by (with_reducible repeat first | assumption | refine Own.fars ?_ ‹_› _ | refine Own.alloc ?_ _ | refine Own.drew ?_ | refine Own.drewN ?_ _ | refine Own.set (by first | omega | simp <;> omega) ?_ _ | refine Own.later ?_ ‹_› | refine Own.gk ?_ ‹_› (by omega))) (by omega), Own.mono (B := w.heap.size + 1) (by (with_reducible repeat first | assumption | refine Own.fars ?_ ‹_› _ | refine Own.alloc ?_ _ | refine Own.drew ?_ | refine Own.drewN ?_ _ | refine Own.set (by first | omega | simp <;> omega) ?_ _ | refine Own.later ?_ ‹_› | refine Own.gk ?_ ‹_› (by omega))) (by omega), by (with_reducible repeat first | assumption | exact bl0 _ _ | refine blA ?_ _ | (refine blS ?_ ?_ _; (simp <;> omega)) | refine blD ?_ | refine blN ?_ _ | refine blF ?_ ‹_›), hsep⟩, HR3.out, h60, g2⟩
end Go.Proofs.YtdpoicfciogfnaaDoor
