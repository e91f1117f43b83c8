/- Texts of replays: the program's ReplayDecode. (Seat D) -/
import Derived.Test.YtdpoicfciogfnaaDoorDecX
import Derived.Test.YtdpoicfciogfnaaDoorEncI
import Derived.Test.YtdpoicfciogfnaaDoorZPart
namespace Go.Proofs.YtdpoicfciogfnaaDoor
open Go.ChangeShapes Go.WideShapes Go.ChangeAt Go.RowKit
theorem decK_len {E : List UInt8} {ws : List (List UInt8)} (h : ws.length ≠ 5) : decK E ws = none := by
  unfold decK
  split
  · exact absurd rfl h
  · rfl
def rd4 (l0 l1 l2 l3 : List UInt8) (k : Nat) : Option (List Int) := match k with | 0 => readN l0 | 1 => readN l1 | 2 => readN l2 | 3 => readN l3 | _ => none
/-- The first k of four lists are read. -/
structure RdA (B : Nat) (l0 l1 l2 l3 : List UInt8) (V : Array Value) (k : Nat) (w : World) : Prop where
  size : V.size = 4
  read : ∀ j, j < k → ∃ L A c, rd4 l0 l1 l2 l3 j = some L ∧ V[j]? = some (.slice A L.length c) ∧ Own w B 3 1 encInt (.slice A L.length c) L
theorem RdA.later {B : Nat} {l0 l1 l2 l3 : List UInt8} {V : Array Value} {k : Nat} {w w' : World} (h : RdA B l0 l1 l2 l3 V k w) (hb : Below w.heap.size w w') : RdA B l0 l1 l2 l3 V k w' :=
  ⟨h.size, fun j hj => let ⟨L, A, c, h1, h2, h3⟩ := h.read j hj; ⟨L, A, c, h1, h2, h3.later hb⟩⟩
theorem RdA.put {B : Nat} {l0 l1 l2 l3 : List UInt8} {V : Array Value} {k : Nat} {w : World} {L : List Int} {A : Option Addr} {c g : Nat} (h : RdA B l0 l1 l2 l3 V k w) (hk : k < 4) (hr : rd4 l0 l1 l2 l3 k = some L) (ho : Own w B 3 1 encInt (.slice A L.length c) L) (hg : g < B) :
    RdA B l0 l1 l2 l3 (V.setIfInBounds k (.slice A L.length c)) (k + 1) (w.setCell ⟨g, k, none⟩ (.slice A L.length c)) := by
  refine ⟨by simpa using h.size, fun j hj => ?_⟩
  by_cases e : j = k
  · subst e
    exact ⟨L, A, c, hr, by rw [Array.getElem?_setIfInBounds_self_of_lt (by rw [h.size]; omega)], ho.set (p := ⟨g, j, none⟩) hg _⟩
  · obtain ⟨L', A', c', h1, h2, h3⟩ := h.read j (by omega)
    exact ⟨L', A', c', h1, by rw [Array.getElem?_setIfInBounds_ne (by omega)]; exact h2, h3.set (p := ⟨g, k, none⟩) hg _⟩
theorem decJ_no {E l0 l1 l2 l3 : List UInt8} {k : Nat} (hk : k < 4) (h : rd4 l0 l1 l2 l3 k = none) : decJ E (readN l0) (readN l1) (readN l2) (readN l3) = none := by
  rcases (show k = 0 ∨ k = 1 ∨ k = 2 ∨ k = 3 by omega) with rfl | rfl | rfl | rfl
  · rw [show readN l0 = none from h]; rfl
  · rw [show readN l1 = none from h]; cases readN l0 <;> rfl
  · rw [show readN l2 = none from h]; cases readN l0 <;> cases readN l1 <;> rfl
  · rw [show readN l3 = none from h]; cases readN l0 <;> cases readN l1 <;> cases readN l2 <;> rfl
theorem keepR {w w' : World} {a0 a1 a2 a3 a4 : Addr} {u0 u1 u2 u3 u4 : Value} (h0 : w.cell? a0 = some u0) (h1 : w.cell? a1 = some u1) (h2 : w.cell? a2 = some u2) (h3 : w.cell? a3 = some u3) (h4 : w.cell? a4 = some u4)
    (b0 : a0.block < w.heap.size) (b1 : a1.block < w.heap.size) (b2 : a2.block < w.heap.size) (b3 : a3.block < w.heap.size) (b4 : a4.block < w.heap.size) (h : Below w.heap.size w w') :
    w'.cell? a0 = some u0 ∧ w'.cell? a1 = some u1 ∧ w'.cell? a2 = some u2 ∧ w'.cell? a3 = some u3 ∧ w'.cell? a4 = some u4 :=
  ⟨(h.cell b0).trans h0, (h.cell b1).trans h1, (h.cell b2).trans h2, (h.cell b3).trans h3, (h.cell b4).trans h4⟩
theorem arr4 {V : Array Value} {a b c d : Value} (h : V.size = 4) (h0 : V[0]? = some a) (h1 : V[1]? = some b) (h2 : V[2]? = some c) (h3 : V[3]? = some d) : V = #[a, b, c, d] := by
  apply Array.ext_getElem?
  intro i
  match i with
  | 0 => exact h0
  | 1 => exact h1
  | 2 => exact h2
  | 3 => exact h3
  | i + 4 => rw [Array.getElem?_eq_none (by omega), Array.getElem?_eq_none (by simp)]
set_option maxRecDepth 100000 in
set_option maxHeartbeats 4000000 in
theorem implReplayDecode_any (E : List UInt8) (w : World) (hE : E.length ≤ 1048576) (hV : Vars4 w) :
    Calls Tryd.prog 13 #[.string (st E)] w (RetRepB ((decI E).getD zeroRep) (decI E).isSome w) := by
  have hcm := fun p => cutL_mem (p := p) (c := 10) hE
  obtain ⟨o, ho⟩ : ∃ o, decI E = o := ⟨_, rfl⟩
  have ho2 : decK E (cutL 10 E) = o := ho
  rw [ho]
  obtain ⟨ws, hws⟩ : ∃ ws, cutL 10 E = ws := ⟨_, rfl⟩
  rw [hws] at ho2 hcm
  have HW := Lib.hid hws
  have HO := Lib.hid ho2
  have HM := Lib.hid hcm
  have HV := Lib.hid hV
  clear ho ho2 hws hcm hV
  by_cases h5 : ws.length = 5
  · obtain ⟨l0, l1, l2, l3, l4, rfl⟩ := list5 h5
    have HO2 := Lib.hid (show decJ E (readN l0) (readN l1) (readN l2) (readN l3) = o from HO.out)
    clear HO h5
    go_enter Tryd.func13, Tryd.ntmps13
    go_wp2_with fail
    refine (split_any E 10 _ hE (HV.out.below (by (with_reducible repeat first | assumption | exact bl0 _ _ | refine blA ?_ _ | (refine blS ?_ ?_ _; (simp <;> omega)) | refine blD ?_ | refine blN ?_ _ | refine blF ?_ ‹_›)))).mono ?_
    rw [HW.out]
    rintro e w1 ⟨rfl, hw1⟩
    have S1 : Sl w1 1 encStr (some ⟨w.heap.size + 1, 0, none⟩) 5 [l0, l1, l2, l3, l4] := by rw [hw1]; exact sl_all_strs _ _ [l0, l1, l2, l3, l4] _ (by simp)
    have R1 : Bk w1 w.heap.size 30 #[.int .i64 0, .int .i64 0, .int .i64 0, .slice none 0 0, .slice none 0 0, .int .i64 0] := by rw [hw1]; exact (Bk.new w _ _ rfl).alloc _
    have B1 : Below w.heap.size w w1 := by rw [hw1]; (with_reducible repeat first | assumption | exact bl0 _ _ | refine blA ?_ _ | (refine blS ?_ ?_ _; (simp <;> omega)) | refine blD ?_ | refine blN ?_ _ | refine blF ?_ ‹_›)
    have z1 : w1.heap.size = w.heap.size + 1 + 1 := by rw [hw1]; simp
    clear hw1
    go_wp2_with fail
    have V2 : Bk (w1.alloc (.cells #[.slice none 0 0, .slice none 0 0, .slice none 0 0, .slice none 0 0] 57)) (w.heap.size + 1 + 1) 57 #[.slice none 0 0, .slice none 0 0, .slice none 0 0, .slice none 0 0] := kN w1 _ _ z1
    have B2 : Below w1.heap.size w1 (w1.alloc (.cells #[.slice none 0 0, .slice none 0 0, .slice none 0 0, .slice none 0 0] 57)) := below_alloc (Below.refl _ _) _
    have z2 : w.heap.size + 1 + 1 < (w1.alloc (.cells #[.slice none 0 0, .slice none 0 0, .slice none 0 0, .slice none 0 0] 57)).heap.size := V2.lt
    generalize (w1.alloc (.cells #[.slice none 0 0, .slice none 0 0, .slice none 0 0, .slice none 0 0] 57)) = w2 at V2 B2 z2 ⊢
    have Z1 := Lib.hid z1
    clear z1
    go_loopw [22] (fun i wr => ∃ (k : Nat) (V : Array Value), k ≤ 4 ∧ i = .int .i64 k ∧ Bk wr (w.heap.size + 1 + 1) 57 V ∧ RdA (w.heap.size + 1 + 1 + 1) l0 l1 l2 l3 V k wr ∧ Below w1.heap.size w1 wr) (fun i _ => 4 - (intOf i).toNat)
    case atStart => exact ⟨0, _, Nat.zero_le _, rfl, V2, ⟨rfl, fun j hj => by omega⟩, B2⟩
    case round =>
      obtain ⟨k, V, hk, rfl, hV, hR, hb⟩ := hrel
      by_cases hlt : k < 4
      · obtain ⟨b, off, y, e0, hbl, hy, hc⟩ := (S1.below hb).at_ (k := k) (by omega)
        cases e0
        have q0 : wr.cell? ⟨w.heap.size + 1, k, none⟩ = some (.string (st y)) := by simpa using hc 0 _ rfl
        have hr4 : rd4 l0 l1 l2 l3 k = readN y := by
          rcases (show k = 0 ∨ k = 1 ∨ k = 2 ∨ k = 3 by omega) with rfl | rfl | rfl | rfl <;> (obtain rfl : _ = y := by simpa using hy) <;> rfl
        have HC := readNumbers_any y wr (HM.out y (List.mem_of_getElem? hy)) (HV.out.below (below_after B1 hb))
        have hkv : k < V.size := by rw [hR.size]; exact hlt
        have hR1 := R1.later hb
        have hlt2 : (k : Int) < 4 := by omega
        have hzr : wr.heap.size = wr.heap.size := rfl
        have zV := hV.lt
        clear hc hy hbl
        cases hn : readN y with
        | none =>
          rw [hn] at HC hr4
          have hno : o = none := by rw [← HO2.out]; exact decJ_no hlt hr4
          subst hno
          go_wp2_with (go_at_call 31; refine HC.mono ?_; rintro e w3 ⟨A, cp, rfl, O3, hb3⟩; have c3 : w3.cell? ⟨w.heap.size + 1 + 1, k, none⟩ = some (V[k]) := ((hV.later hb3).cell k).trans (Array.getElem?_eq_getElem hkv); have f3 : w3.frozen? ⟨w.heap.size + 1 + 1, k, none⟩ = false := (hV.later hb3).fr k; obtain ⟨⟨x0, x1, x2, x3, x4, x5⟩, xf⟩ := (hR1.later hb3).c6; have yb3 := hb3.size)
          exact bodyPost_ret (v := .tuple #[.agg #[.int .i64 0, .int .i64 0, .int .i64 0, .slice none 0 0, .slice none 0 0, .int .i64 0], .bool false]) (by simp [results, Tryd.results13, go_sem, *]) rfl ⟨none, 0, none, 0, rfl, Own.none_, Own.none_, by (with_reducible repeat first | assumption | exact bl0 _ _ | refine blA ?_ _ | (refine blS ?_ ?_ _; (simp <;> omega)) | refine blD ?_ | refine blN ?_ _ | refine blF ?_ ‹_›), fun g g' e => by cases e⟩
        | some L =>
          rw [hn] at HC hr4
          go_wp2_with (go_at_call 31; refine HC.mono ?_; rintro e w3 ⟨A, cp, rfl, O3, hb3⟩; have c3 : w3.cell? ⟨w.heap.size + 1 + 1, k, none⟩ = some (V[k]) := ((hV.later hb3).cell k).trans (Array.getElem?_eq_getElem hkv); have f3 : w3.frozen? ⟨w.heap.size + 1 + 1, k, none⟩ = false := (hV.later hb3).fr k)
          go_roundw
          case rel => exact ⟨k + 1, V.setIfInBounds k (.slice A L.length cp), by omega, by go_num, (hV.later hb3).set_ k _, (hR.later hb3).put hlt hr4 (O3.mono zV) (Nat.lt_succ_self _), below_setCell (by rw [Z1.out]; exact Nat.le_refl _) (below_after hb hb3) _⟩
          case measure => simp [intOf]; omega
      · obtain rfl : k = 4 := by omega
        rw [show ((4 : Nat) : Int) = 4 from rfl]
        obtain ⟨L0, A0, c0, r0, v0, O0⟩ := hR.read 0 (by omega)
        obtain ⟨L1, A1, c1, r1, v1, O1⟩ := hR.read 1 (by omega)
        obtain ⟨L2, A2, c2, r2, v2, O2⟩ := hR.read 2 (by omega)
        obtain ⟨L3, A3, c3, r3, v3, O3⟩ := hR.read 3 (by omega)
        have hVe := arr4 hR.size v0 v1 v2 v3
        subst hVe
        have g0 := Nat.le_trans (readN_len r0) (HM.out l0 (by simp))
        have g1 := Nat.le_trans (readN_len r1) (HM.out l1 (by simp))
        have g2 := Nat.le_trans (readN_len r2) (HM.out l2 (by simp))
        have g3 := Nat.le_trans (readN_len r3) (HM.out l3 (by simp))
        have HO3 := Lib.hid (show repI E L0 L1 L2 L3 = o by
          rw [← HO2.out, show readN l0 = some L0 from r0, show readN l1 = some L1 from r1, show readN l2 = some L2 from r2, show readN l3 = some L3 from r3]; rfl)
        have B4 : Below w.heap.size w wr := below_after B1 hb
        have R4 := R1.later hb
        have S0 := O0.sl' encInt_len
        have S1' := O1.sl' encInt_len
        have S3 := O3.sl' encInt_len
        have z4 := hV.lt
        have zR := R4.lt
        clear r0 r1 r2 r3 v0 v1 v2 v3 O0 O1 O3 hR hb S1 R1 B1 B2 V2 z2 HO2 hlt hk
        have dd := hV.c4
        obtain ⟨⟨d0, d1, d2, d3⟩, df⟩ := dd
        go_wp2
        go_quiet (fail)
        by_cases hB : L0.length = 3 ∧ L1.length % 2 = 0 ∧ L3.length = 1
        · obtain ⟨hl0, hl1, hl3⟩ := hB
          have hl1b : L1.length = 2 * (unpair L1).length := by rw [unpair_len]; omega
          have hRS : (if goodParts (unpair L1) = true ∧ replayOk (readP L0 L1 L2 L3) = true ∧ encR (readP L0 L1 L2 L3) = E then some (readP L0 L1 L2 L3) else none) = o := by
            rw [← HO3.out, repI]
            by_cases hc : goodParts (unpair L1) = true ∧ replayOk (readP L0 L1 L2 L3) = true ∧ encR (readP L0 L1 L2 L3) = E
            · rw [if_pos hc, if_pos ⟨hl0, hl1, hl3, hc⟩]
            · rw [if_neg hc, if_neg (fun h => hc ⟨h.2.2.2.1, h.2.2.2.2.1, h.2.2.2.2.2⟩)]
          have HU := Lib.hid (unpair_at L1)
          obtain ⟨ps, hps⟩ : ∃ ps, unpair L1 = ps := ⟨_, rfl⟩
          rw [hps] at hl1b HU hRS
          have HRS := Lib.hid hRS
          have HPS := Lib.hid hps
          have t0 : (L0.length : Int) = 3 := by omega
          have t1 : (L1.length : Int).tmod 2 = 0 := by rw [Int.tmod_eq_emod_of_nonneg (by omega)]; omega
          have t3 : (L3.length : Int) = 1 := by omega
          have HL1 := Lib.hid hl1b
          obtain ⟨i0, hi, hz0, hz1, hz2⟩ := info_parts Tryd.infoP2
          have HL0 := Lib.hid hl0
          have HL3 := Lib.hid hl3
          clear hRS hps hl1 hl1b HO3 d0 d1 d3 hl0 hl3
          go_wp2
          have hV4 : Bk (wr.drewN nq) (w.heap.size + 1 + 1) 57 #[.slice A0 L0.length c0, .slice A1 L1.length c1, .slice A2 L2.length c2, .slice A3 L3.length c3] := hV
          have R5 : Bk (wr.drewN nq) w.heap.size 30 #[.int .i64 0, .int .i64 0, .int .i64 0, .slice none 0 0, .slice none 0 0, .int .i64 0] := R4
          have B5 : Below w.heap.size w (wr.drewN nq) := below_drewN B4 nq
          have T0 : Sl (wr.drewN nq) 1 encInt A0 L0.length L0 := S0
          have T1 : Sl (wr.drewN nq) 1 encInt A1 L1.length L1 := S1'
          have T3 : Sl (wr.drewN nq) 1 encInt A3 L3.length L3 := S3
          have OH : Own (wr.drewN nq) (w.heap.size + 1 + 1 + 1) 3 1 encInt (.slice A2 L2.length c2) L2 := O2
          have y4 : w.heap.size + 1 + 1 < (wr.drewN nq).heap.size := z4
          clear hV R4 B4 S0 S1' S3 O2 z4 zR d2 df
          generalize wr.drewN nq = w4 at hV4 R5 B5 T0 T1 T3 OH y4 ⊢
          go_loopw [11, 12] (fun v i wr => ∃ k m : Nat, k ≤ ps.length ∧ m = 2 * k ∧ i = .int .i64 m ∧ Own wr w4.heap.size 49 2 encPrt v (ps.take k) ∧ Below w4.heap.size w4 wr) (fun _ i _ => 2 * ps.length - (intOf i).toNat)
          case atStart => exact ⟨0, 0, Nat.zero_le _, rfl, rfl, Own.none_, Below.refl _ _⟩
          case round =>
            obtain ⟨k, m, hk, hm, rfl, ho, hb⟩ := hrel
            have hl1 := HL1.out
            have yb := hb.size
            by_cases hlt : k < ps.length
            · obtain ⟨p, hp⟩ : ∃ p, ps[k]? = some p := ⟨_, List.getElem?_eq_getElem hlt⟩
              obtain ⟨u1, u2⟩ := HU.out k p hp
              rw [← hm] at u1 u2
              obtain ⟨b', off', z1, rfl, hbl', hz1', hd1⟩ := T1.at_ (k := m) (by omega)
              obtain ⟨b'', off'', z2, e2, _, hz2', hd2⟩ := T1.at_ (k := m + 1) (by omega)
              cases e2
              have e3 : z1 = p.c := by rw [hz1'] at u1; exact Option.some.inj u1
              have e4 : z2 = p.m := by rw [hz2'] at u2; exact Option.some.inj u2
              subst e3 e4
              have q0 : w4.cell? ⟨b', off' + m, none⟩ = some (.int .i64 p.c) := by simpa using hd1 0 _ rfl
              have q1 : w4.cell? ⟨b', off' + (m + 1), none⟩ = some (.int .i64 p.m) := by simpa using hd2 0 _ rfl
              have HP := Lib.hid (show ps.take (k + 1) = ps.take k ++ [p] by rw [List.take_add_one, hp]; rfl)
              have HX := Lib.hid ho.lt
              have hl : (ps.take k).length = k := by rw [List.length_take]; omega
              have hmi : m < L1.length := by omega
              have hmi1 : m + 1 < L1.length := by omega
              have hmi2 : (m : Int) < (L1.length : Int) := by omega
              have hmi3 : (m : Int) + 1 < (L1.length : Int) := by omega
              have hw0 : IntKind.i64.wrap ((m : Int) + 1) = (m : Int) + 1 := by rw [IntKind.wrap_i64]; omega
              have hmi4 : (0 : Int) ≤ (m : Int) + 1 := by omega
              have hmi5 : ((m : Int) + 1).toNat = m + 1 := by omega
              have hmi6 : (0 : Int) ≤ (m : Int) := by omega
              have HM2 := Lib.hid (And.intro hm hl1)
              have hps : ps.length ≤ 1048576 := by omega
              clear u1 u2 hz1' hz2' hd1 hd2 hp hm hl1 T0 T3 OH R5 hV4 t0 t1 t3
              go_wp2
              go_region_held3 (fun w' => w'.cell? ⟨b', off' + m, none⟩ = some (.int .i64 p.c) ∧ w'.cell? ⟨b', off' + (m + 1), none⟩ = some (.int .i64 p.m))
                (first | (with_reducible exact keepTwo q0 q1 hbl' hbl' (by (with_reducible repeat first | assumption | exact bl0 _ _ | refine blA ?_ _ | (refine blS ?_ ?_ _; (simp <;> omega)) | refine blD ?_ | refine blN ?_ _ | refine blF ?_ ‹_›))) | (with_reducible exact keepTwo q0 q1 hbl' hbl' hB2))
                ((refine step_appL rfl (.tmp 66) (.tmp 77) _ rfl w4.heap.size 49 i0 (.agg #[.int .i64 0, .int .i64 0]) 2 16 Tryd.underlying46 hi hz0 hz1 hz2 rfl (by decide) encPrt_len one_prt _ (ps.take k) [p] (by first | (simp [Act.eval]; done) | (simp [Act.eval]; rfl)) (own_drw (ho.alloc _)) _ 1 1 (by first | (simp [Act.eval]; done) | (simp [Act.eval]; rfl)) (sl_drw (Sl.one wr p _ _ rfl)) (by intro e; cases e) (by rw [hl]; unfold maxLen; omega) (by rw [hl]; omega) (by simp; omega) ?_; intro v2 w2 ho2 hg2 hv2; rw [← HP.out] at ho2; have hB2 : Below w4.heap.size w4 w2 := Below.grown (below_drew (below_alloc hb _)) hg2 (by simp; omega) (fun g e => (HX.out g e).1)))
              go_wp2
              go_roundw
              case rel => exact ⟨k + 1, m + 2, by omega, by have := HM2.out; omega, by go_num, ho2, hB2⟩
              case measure => have := HM2.out; simp [intOf]; omega
            · obtain rfl : k = ps.length := by omega
              have hl0 := HL0.out
              have hl3 := HL3.out
              rw [List.take_length] at ho
              have hnl : ¬ ((m : Int) < (L1.length : Int)) := by omega
              have hps : ps.length ≤ 1048576 := by omega
              have B6 : Below w.heap.size w wr := below_after B5 hb
              have R6 := R5.later hb
              have W6 := hV4.later hb
              have zR6 := W6.lt
              obtain ⟨A5, c5, rfl, hc5, _⟩ := ho.form
              have S5 := ho.sl' encPrt_len
              have U0 := T0.below hb
              have U3 := T3.below hb
              have OH6 := OH.later hb
              clear hl1 hm HU T0 T1 T3 OH R5 hV4 t1 ho hk hlt B5 hl0 hl3
              go_wp2_with fail
              refine (implReplayInputs_any A5 c5 ps _ S5 (by omega)).mono ?_
              rintro e w7 ⟨A6, c6, rfl, hc6, O6, hb7⟩
              have B7 := below_after B6 hb7
              have R7 := R6.later hb7
              have W7 := W6.later hb7
              have V0 := U0.below hb7
              have V3 := U3.below hb7
              have OH7 := OH6.later hb7
              have O6' := O6.mono (B' := w.heap.size + 1 + 1 + 1) zR6
              have h60 := inputsOf_60 ps
              clear B6 R6 W6 U0 U3 OH6 O6 S5 hb hb7
              obtain ⟨I, hI⟩ : ∃ I, inputsOf ps = I := ⟨_, rfl⟩
              rw [hI] at h60 O6' ⊢
              obtain ⟨z0, z1, z2, rfl⟩ := list3 HL0.out
              obtain ⟨z3, rfl⟩ := List.length_eq_one_iff.1 HL3.out
              have HRS2 := HRS.out
              rw [show readP [z0, z1, z2] L1 L2 [z3] = ⟨z0, z1, z2, I, L2, z3⟩ by unfold readP; rw [HPS.out, hI]; rfl] at HRS2
              have HR := Lib.hid HRS2
              obtain ⟨bA, oA, x0, e0, hbA, hx0, hd0⟩ := V0.at_ (k := 0) (by simp)
              obtain ⟨bA', oA', x1, e1, _, hx1, hd1⟩ := V0.at_ (k := 1) (by simp)
              rw [e0] at e1
              cases e1
              obtain ⟨bA', oA', x2, e2, _, hx2, hd2⟩ := V0.at_ (k := 2) (by simp)
              rw [e0] at e2
              cases e2
              obtain ⟨bT, oT, x3, e3, hbT, hx3, hd3⟩ := V3.at_ (k := 0) (by simp)
              subst e0 e3
              obtain rfl : z0 = x0 := by simpa using hx0
              obtain rfl : z1 = x1 := by simpa using hx1
              obtain rfl : z2 = x2 := by simpa using hx2
              obtain rfl : z3 = x3 := by simpa using hx3
              have q0 : w7.cell? ⟨bA, oA, none⟩ = some (.int .i64 z0) := by simpa using hd0 0 _ rfl
              have q1 : w7.cell? ⟨bA, oA + 1, none⟩ = some (.int .i64 z1) := by simpa using hd1 0 _ rfl
              have q2 : w7.cell? ⟨bA, oA + 2, none⟩ = some (.int .i64 z2) := by simpa using hd2 0 _ rfl
              have q3 : w7.cell? ⟨bT, oT, none⟩ = some (.int .i64 z3) := by simpa using hd3 0 _ rfl
              have q4 : w7.cell? ⟨w.heap.size + 1 + 1, 2, none⟩ = some (.slice A2 L2.length c2) := W7.cell 2
              have hb4 := W7.lt
              clear HRS HRS2 hx0 hx1 hx2 hx3 hd0 hd1 hd2 hd3 V0 V3 hc5 hc6
              go_wp2
              go_region_held3 (fun w' => w'.cell? ⟨bA, oA, none⟩ = some (.int .i64 z0) ∧ w'.cell? ⟨bA, oA + 1, none⟩ = some (.int .i64 z1) ∧ w'.cell? ⟨bA, oA + 2, none⟩ = some (.int .i64 z2) ∧ w'.cell? ⟨bT, oT, none⟩ = some (.int .i64 z3) ∧ w'.cell? ⟨w.heap.size + 1 + 1, 2, none⟩ = some (.slice A2 L2.length c2))
                ((with_reducible exact keepR q0 q1 q2 q3 q4 hbA hbA hbA hbT hb4 (by (with_reducible repeat first | assumption | exact bl0 _ _ | refine blA ?_ _ | (refine blS ?_ ?_ _; (simp <;> omega)) | refine blD ?_ | refine blN ?_ _ | refine blF ?_ ‹_›))))
                (fail)
              have N8 : Bk (w7.alloc (.cells #[.int .i64 z0, .int .i64 z1, .int .i64 z2, .slice A6 I.length c6, .slice A2 L2.length c2, .int .i64 z3] 30)).drew w7.heap.size 30 #[.int .i64 z0, .int .i64 z1, .int .i64 z2, .slice A6 I.length c6, .slice A2 L2.length c2, .int .i64 z3] := kD (kN w7 _ _ rfl)
              have R8 := kD (R7.alloc (.cells #[.int .i64 z0, .int .i64 z1, .int .i64 z2, .slice A6 I.length c6, .slice A2 L2.length c2, .int .i64 z3] 30))
              have B8 : Below w.heap.size w (w7.alloc (.cells #[.int .i64 z0, .int .i64 z1, .int .i64 z2, .slice A6 I.length c6, .slice A2 L2.length c2, .int .i64 z3] 30)).drew := by (with_reducible repeat first | assumption | exact bl0 _ _ | refine blA ?_ _ | (refine blS ?_ ?_ _; (simp <;> omega)) | refine blD ?_ | refine blN ?_ _ | refine blF ?_ ‹_›)
              have OI8 := own_drw (O6'.alloc (.cells #[.int .i64 z0, .int .i64 z1, .int .i64 z2, .slice A6 I.length c6, .slice A2 L2.length c2, .int .i64 z3] 30))
              have OH8 := own_drw (OH7.alloc (.cells #[.int .i64 z0, .int .i64 z1, .int .i64 z2, .slice A6 I.length c6, .slice A2 L2.length c2, .int .i64 z3] 30))
              have z7 := R7.lt
              clear R7 W7 O6' OH7 q0 q1 q2 q3 q4 B7 hbA hbT hb4 zR6
              generalize (w7.alloc (.cells #[.int .i64 z0, .int .i64 z1, .int .i64 z2, .slice A6 I.length c6, .slice A2 L2.length c2, .int .i64 z3] 30)).drew = w8 at N8 R8 B8 OI8 OH8 ⊢
              generalize w7.heap.size = N at N8 z7 ⊢
              have zN := N8.lt
              have zR8 := R8.lt
              have hsep := ownNe2 OI8 OH8 (by decide)
              have sI := OI8.sl' encInp_len
              have sH := OH8.sl' encInt_len
              have hEl := Lib.hid hE
              cases hgp : goodParts ps with
              | false =>
                have hno : o = none := by have h := HR.out; rw [if_neg (fun h => by rw [hgp] at h; cases h.1)] at h; exact h.symm
                subst hno
                obtain ⟨⟨x0, x1, x2, x3, x4, x5⟩, xf⟩ := R8.c6
                go_wp2
                exact bodyPost_ret (v := .tuple #[.agg #[.int .i64 0, .int .i64 0, .int .i64 0, .slice none 0 0, .slice none 0 0, .int .i64 0], .bool false]) (by simp [results, Tryd.results13, go_sem, *]) rfl ⟨none, 0, none, 0, rfl, Own.none_, Own.none_, by (with_reducible repeat first | assumption | exact bl0 _ _ | refine blA ?_ _ | (refine blS ?_ ?_ _; (simp <;> omega)) | refine blD ?_ | refine blN ?_ _ | refine blF ?_ ‹_›), fun g g' e => by cases e⟩
              | true =>
                cases hrv : replayOk ⟨z0, z1, z2, I, L2, z3⟩ with
                | false =>
                  have hno : o = none := by have h := HR.out; rw [if_neg (fun h => by rw [hrv] at h; cases h.2.1)] at h; exact h.symm
                  subst hno
                  obtain ⟨⟨n0, n1, n2, n3, n4, n5⟩, nf⟩ := N8.c6
                  go_wp2_with (go_at_call 22; refine (implReplayValid_any A6 A2 c6 c2 ⟨z0, z1, z2, I, L2, z3⟩ _ sI sH (by dsimp only; omega) (by dsimp only; omega)).mono ?_; rw [hrv]; rintro e w9 ⟨rfl, hb9⟩; have yb9 := hb9.size; obtain ⟨⟨n0, n1, n2, n3, n4, n5⟩, nf⟩ := (N8.later hb9).c6; obtain ⟨⟨x0, x1, x2, x3, x4, x5⟩, xf⟩ := (R8.later hb9).c6)
                  exact bodyPost_ret (v := .tuple #[.agg #[.int .i64 0, .int .i64 0, .int .i64 0, .slice none 0 0, .slice none 0 0, .int .i64 0], .bool false]) (by simp [results, Tryd.results13, go_sem, *]) rfl ⟨none, 0, none, 0, rfl, Own.none_, Own.none_, by (with_reducible repeat first | assumption | exact bl0 _ _ | refine blA ?_ _ | (refine blS ?_ ?_ _; (simp <;> omega)) | refine blD ?_ | refine blN ?_ _ | refine blF ?_ ‹_›), fun g g' e => by cases e⟩
                | true =>
                  obtain ⟨E2, hE2⟩ : ∃ E2, encR ⟨z0, z1, z2, I, L2, z3⟩ = E2 := ⟨_, rfl⟩
                  have HR2 := HR.out
                  rw [hgp, hrv, hE2] at HR2
                  have f1 : (st E).toList = E := st_toList E
                  have f2 : (st E2).toList = E2 := st_toList E2
                  obtain ⟨⟨n0, n1, n2, n3, n4, n5⟩, nf⟩ := N8.c6
                  by_cases hEE : E2 = E
                  · have hyes : o = some ⟨z0, z1, z2, I, L2, z3⟩ := by rw [if_pos ⟨rfl, rfl, hEE⟩] at HR2; exact HR2.symm
                    subst hEE
                    subst hyes
                    go_wp2_with (first | (go_at_call 22; refine (implReplayValid_any A6 A2 c6 c2 ⟨z0, z1, z2, I, L2, z3⟩ _ sI sH (by dsimp only; omega) (by dsimp only; omega)).mono ?_; rw [hrv]; rintro e w9 ⟨rfl, hb9⟩; have yb9 := hb9.size; obtain ⟨⟨n0, n1, n2, n3, n4, n5⟩, nf⟩ := (N8.later hb9).c6; obtain ⟨⟨x0, x1, x2, x3, x4, x5⟩, xf⟩ := (R8.later hb9).c6) | (go_at_call 9; refine (implReplayEncode_any A6 A2 c6 c2 ⟨z0, z1, z2, I, L2, z3⟩ _ (sI.below hb9) (sH.below hb9) (by dsimp only; omega) (by dsimp only; omega) (HV.out.below (below_after B8 hb9)).tab).mono ?_; rw [hE2]; rintro e w10 ⟨rfl, hb10⟩; have yb10 := hb10.size; obtain ⟨⟨m0, m1, m2, m3, m4, m5⟩, mf⟩ := ((N8.later hb9).later hb10).c6; obtain ⟨⟨u0, u1, u2, u3, u4, u5⟩, uf⟩ := ((R8.later hb9).later hb10).c6))
                    exact bodyPost_ret (v := .tuple #[.agg #[.int .i64 z0, .int .i64 z1, .int .i64 z2, .slice A6 I.length c6, .slice A2 L2.length c2, .int .i64 z3], .bool true]) (by simp [results, Tryd.results13, go_sem, *]) rfl ⟨A6, c6, A2, c2, rfl, Own.mono (B := w.heap.size + 1 + 1 + 1) (v := .slice A6 I.length c6) (l := I) (by (with_reducible repeat first | assumption | refine Own.fars ?_ ‹_› _ | refine Own.alloc ?_ _ | refine Own.drew ?_ | refine Own.drewN ?_ _ | refine Own.set (by first | omega | simp <;> omega) ?_ _ | refine Own.later ?_ ‹_› | refine Own.gk ?_ ‹_› (by omega))) (by omega), Own.mono (B := w.heap.size + 1 + 1 + 1) (v := .slice A2 L2.length c2) (l := L2) (by (with_reducible repeat first | assumption | refine Own.fars ?_ ‹_› _ | refine Own.alloc ?_ _ | refine Own.drew ?_ | refine Own.drewN ?_ _ | refine Own.set (by first | omega | simp <;> omega) ?_ _ | refine Own.later ?_ ‹_› | refine Own.gk ?_ ‹_› (by omega))) (by omega), by (with_reducible repeat first | assumption | exact bl0 _ _ | refine blA ?_ _ | (refine blS ?_ ?_ _; (simp <;> omega)) | refine blD ?_ | refine blN ?_ _ | refine blF ?_ ‹_›), hsep⟩
                  · have hno : o = none := by rw [if_neg (fun h => hEE h.2.2)] at HR2; exact HR2.symm
                    have f3 : (E2 == E) = false := by simpa using hEE
                    subst hno
                    go_wp2_with (first | (go_at_call 22; refine (implReplayValid_any A6 A2 c6 c2 ⟨z0, z1, z2, I, L2, z3⟩ _ sI sH (by dsimp only; omega) (by dsimp only; omega)).mono ?_; rw [hrv]; rintro e w9 ⟨rfl, hb9⟩; have yb9 := hb9.size; obtain ⟨⟨n0, n1, n2, n3, n4, n5⟩, nf⟩ := (N8.later hb9).c6; obtain ⟨⟨x0, x1, x2, x3, x4, x5⟩, xf⟩ := (R8.later hb9).c6) | (go_at_call 9; refine (implReplayEncode_any A6 A2 c6 c2 ⟨z0, z1, z2, I, L2, z3⟩ _ (sI.below hb9) (sH.below hb9) (by dsimp only; omega) (by dsimp only; omega) (HV.out.below (below_after B8 hb9)).tab).mono ?_; rw [hE2]; rintro e w10 ⟨rfl, hb10⟩; have yb10 := hb10.size; obtain ⟨⟨m0, m1, m2, m3, m4, m5⟩, mf⟩ := ((N8.later hb9).later hb10).c6; obtain ⟨⟨u0, u1, u2, u3, u4, u5⟩, uf⟩ := ((R8.later hb9).later hb10).c6))
                    exact bodyPost_ret (v := .tuple #[.agg #[.int .i64 0, .int .i64 0, .int .i64 0, .slice none 0 0, .slice none 0 0, .int .i64 0], .bool false]) (by simp [results, Tryd.results13, go_sem, *]) rfl ⟨none, 0, none, 0, rfl, Own.none_, Own.none_, by (with_reducible repeat first | assumption | exact bl0 _ _ | refine blA ?_ _ | (refine blS ?_ ?_ _; (simp <;> omega)) | refine blD ?_ | refine blN ?_ _ | refine blF ?_ ‹_›), fun g g' e => by cases e⟩
        · have hno : o = none := by rw [← HO3.out, repI, if_neg (fun h => hB ⟨h.1, h.2.1, h.2.2.1⟩)]
          subst hno
          obtain ⟨⟨x0, x1, x2, x3, x4, x5⟩, xf⟩ := R4.c6
          have hcs : (L0.length : Int) ≠ 3 ∨ ((L0.length : Int) = 3 ∧ (L1.length : Int).tmod 2 = 1) ∨ ((L0.length : Int) = 3 ∧ (L1.length : Int).tmod 2 = 0 ∧ (L3.length : Int) ≠ 1) := by
            rw [Int.tmod_eq_emod_of_nonneg (by omega)]; omega
          clear hB S0 S1' S3
          rcases hcs with hl0 | ⟨hl0, hl1⟩ | ⟨hl0, hl1, hl2⟩
          all_goals
            go_wp2
            exact bodyPost_ret (v := .tuple #[.agg #[.int .i64 0, .int .i64 0, .int .i64 0, .slice none 0 0, .slice none 0 0, .int .i64 0], .bool false]) (by simp [results, Tryd.results13, go_sem, *]) rfl ⟨none, 0, none, 0, rfl, Own.none_, Own.none_, by (with_reducible repeat first | assumption | exact bl0 _ _ | refine blA ?_ _ | (refine blS ?_ ?_ _; (simp <;> omega)) | refine blD ?_ | refine blN ?_ _ | refine blF ?_ ‹_›), fun g g' e => by cases e⟩
  · have HO2 := HO.out
    rw [decK_len h5] at HO2
    subst HO2
    have h6 : (ws.length : Int) ≠ 5 := by omega
    go_enter Tryd.func13, Tryd.ntmps13
    go_wp2_with fail
    refine (split_any E 10 _ hE (HV.out.below (by (with_reducible repeat first | assumption | exact bl0 _ _ | refine blA ?_ _ | (refine blS ?_ ?_ _; (simp <;> omega)) | refine blD ?_ | refine blN ?_ _ | refine blF ?_ ‹_›)))).mono ?_
    rw [HW.out]
    rintro e w1 ⟨rfl, hw1⟩
    have R1 : Bk w1 w.heap.size 30 #[.int .i64 0, .int .i64 0, .int .i64 0, .slice none 0 0, .slice none 0 0, .int .i64 0] := by rw [hw1]; exact (Bk.new w _ _ rfl).alloc _
    have B1 : Below w.heap.size w w1 := by rw [hw1]; (with_reducible repeat first | assumption | exact bl0 _ _ | refine blA ?_ _ | (refine blS ?_ ?_ _; (simp <;> omega)) | refine blD ?_ | refine blN ?_ _ | refine blF ?_ ‹_›)
    have z1 := R1.lt
    clear hw1
    obtain ⟨⟨x0, x1, x2, x3, x4, x5⟩, xf⟩ := R1.c6
    go_wp2
    exact bodyPost_ret (v := .tuple #[.agg #[.int .i64 0, .int .i64 0, .int .i64 0, .slice none 0 0, .slice none 0 0, .int .i64 0], .bool false]) (by simp [results, Tryd.results13, go_sem, *]) rfl ⟨none, 0, none, 0, rfl, Own.none_, Own.none_, by (with_reducible repeat first | assumption | exact bl0 _ _ | refine blA ?_ _ | (refine blS ?_ ?_ _; (simp <;> omega)) | refine blD ?_ | refine blN ?_ _ | refine blF ?_ ‹_›), fun g g' e => by cases e⟩
end Go.Proofs.YtdpoicfciogfnaaDoor
