/- Texts of replays: the reference's text. (Seat D) -/
import Derived.Test.YtdpoicfciogfnaaDoorEncS
import Derived.Test.YtdpoicfciogfnaaDoorZBase
import Derived.Test.YtdpoicfciogfnaaDoorZPart
import Derived.Test.YtdpoicfciogfnaaDoorZRepl
namespace Go.Proofs.YtdpoicfciogfnaaDoor
open Go.ChangeShapes Go.WideShapes Go.ChangeAt Go.RowKit
def pairsOf (ps : List Prt) : List Int := ps.flatMap fun p => [p.c, p.m]
theorem pairsOf_snoc {ps : List Prt} {k : Nat} {p : Prt} (hp : ps[k]? = some p) : pairsOf (ps.take (k + 1)) = pairsOf (ps.take k) ++ [p.c, p.m] := by
  unfold pairsOf
  rw [List.take_add_one, hp, List.flatMap_append]
  simp
theorem pairsOf_len (ps : List Prt) : (pairsOf ps).length = 2 * ps.length := by
  unfold pairsOf
  induction ps with
  | nil => rfl
  | cons p ps ih => rw [List.flatMap_cons, List.length_append, ih]; simp; omega
def wReplay : List UInt8 := [114, 101, 112, 108, 97, 121]
def wInputs : List UInt8 := [105, 110, 112, 117, 116, 115]
def wHashes : List UInt8 := [104, 97, 115, 104, 101, 115]
def wTag : List UInt8 := [116, 97, 103]
/-- The text of a valid replay. -/
def encT (r : Rep) : List UInt8 := lineB wReplay [r.lv, r.pl, r.sc] ++ lineB wInputs (pairsOf (partsOf r.ins)) ++ lineB wHashes r.hs ++ lineB wTag [r.tag]
def encR (r : Rep) : List UInt8 := if replayOk r then encT r else []
theorem sl_two (w : World) (T : TypeId) (a b : Int) (g : Nat) (hg : w.heap.size = g) : Sl (w.alloc (.cells #[.int .i64 a, .int .i64 b] T)) 1 encInt (some ⟨g, 0, none⟩) 2 [a, b] := by
  subst hg
  refine ⟨rfl, fun _ => ⟨w.heap.size, 0, rfl, by simp, fun k x hk j v hj => ?_⟩⟩
  rw [cell_of_row _ w.heap.size _ #[.int .i64 a, .int .i64 b] T (0, 0) (heap_alloc_new w _)]
  match k, hk with
  | 0, hk => cases hk; match j, hj with | 0, hj => simpa [encInt] using hj
  | 1, hk => cases hk; match j, hj with | 0, hj => simpa [encInt] using hj
/-- The numbers of a valid replay are no negative ones, and small. -/
theorem enc_63 {r : Rep} (h : replayOk r = true) : int63 r.lv ∧ int63 r.pl ∧ int63 r.sc ∧ (∀ y ∈ r.hs, int63 y) ∧ int63 r.tag := by
  simp only [replayOk, Bool.and_eq_true, inR_iff, hashB, List.all_eq_true] at h
  obtain ⟨h1, h2, h3, h4, h5, h6, h7⟩ := h
  refine ⟨⟨by omega, by omega⟩, ⟨by omega, by omega⟩, ⟨by omega, by omega⟩, fun y hy => ?_, ⟨by omega, by omega⟩⟩
  have := h7 y hy
  exact ⟨by omega, by omega⟩
theorem pairs_63 {l : List Inp} (h : ∀ x ∈ l, inpOk x = true) (hl : l.length ≤ 60) : ∀ y ∈ pairsOf (partsOf l), int63 y := by
  intro y hy
  unfold pairsOf at hy
  rw [List.mem_flatMap] at hy
  obtain ⟨q, hq, hy⟩ := hy
  have hm := (rparts_bd l l.length).2
  rw [List.take_length] at hm
  have hq2 := hm q (by unfold partsOf at hq; simpa using hq)
  have h1 := exp_mem hq (parts_m hq)
  rw [partsOf_exp, List.mem_map] at h1
  obtain ⟨x, hx, hc⟩ := h1
  have hx2 := code_ok (h x hx)
  simp only [codeOk, Bool.and_eq_true, decide_eq_true_eq] at hx2
  simp only [List.mem_cons, List.not_mem_nil, or_false] at hy
  rcases hy with rfl | rfl
  · exact ⟨by omega, by omega⟩
  · exact ⟨by omega, by omega⟩
theorem sl_three (w : World) (T : TypeId) (a b c : Int) (g : Nat) (hg : w.heap.size = g) : Sl (w.alloc (.cells #[.int .i64 a, .int .i64 b, .int .i64 c] T)) 1 encInt (some ⟨g, 0, none⟩) 3 [a, b, c] := by
  subst hg
  refine ⟨rfl, fun _ => ⟨w.heap.size, 0, rfl, by simp, fun k x hk j v hj => ?_⟩⟩
  rw [cell_of_row _ w.heap.size _ #[.int .i64 a, .int .i64 b, .int .i64 c] T (0, 0) (heap_alloc_new w _)]
  match k, hk with
  | 0, hk => cases hk; match j, hj with | 0, hj => simpa [encInt] using hj
  | 1, hk => cases hk; match j, hj with | 0, hj => simpa [encInt] using hj
  | 2, hk => cases hk; match j, hj with | 0, hj => simpa [encInt] using hj
theorem sl_one1 (w : World) (T : TypeId) (a : Int) (g : Nat) (hg : w.heap.size = g) : Sl (w.alloc (.cells #[.int .i64 a] T)) 1 encInt (some ⟨g, 0, none⟩) 1 [a] := by
  subst hg
  refine ⟨rfl, fun _ => ⟨w.heap.size, 0, rfl, by simp, fun k x hk j v hj => ?_⟩⟩
  rw [cell_of_row _ w.heap.size _ #[.int .i64 a] T (0, 0) (heap_alloc_new w _)]
  match k, hk with
  | 0, hk => cases hk; match j, hj with | 0, hj => simpa [encInt] using hj
theorem sl_all {α : Type} {w : World} {sz : Nat} {enc : α → List Value} {A : Option Addr} {n : Nat} {l : List α} (h : Sl w sz enc A n l) (o : Obj) : Sl (w.alloc o) sz enc A n l := h.below (below_alloc (Below.refl _ _) o)
theorem own_drw {α : Type} {w : World} {B : Nat} {T : TypeId} {sz : Nat} {enc : α → List Value} {v : Value} {l : List α} (h : Own w B T sz enc v l) : Own w.drew B T sz enc v l := h
theorem sl_drw {α : Type} {w : World} {sz : Nat} {enc : α → List Value} {A : Option Addr} {n : Nat} {l : List α} (h : Sl w sz enc A n l) : Sl w.drew sz enc A n l := h
theorem own_nilI (w : World) (B N : Nat) (T : TypeId) (hB : B ≤ w.heap.size) (hN : w.heap.size = N) : Own (w.alloc (.cells #[] T)) B T 1 encInt (.slice (some ⟨N, 0, none⟩) 0 0) [] := by
  subst hN
  exact World.ownsRow_lit (base := B) (size := 1) w #[] 0 hB (by decide) rfl
theorem keepTwo {W w' : World} {a b : Addr} {u v : Value} (h : W.cell? a = some u) (h2 : W.cell? b = some v) (ha : a.block < W.heap.size) (hb2 : b.block < W.heap.size) (hb : Below W.heap.size W w') : w'.cell? a = some u ∧ w'.cell? b = some v := ⟨(hb.cell ha).trans h, (hb.cell hb2).trans h2⟩
theorem keepSix {W w' : World} {g : Nat} {t : TypeId} {v0 v1 v2 v3 v4 v5 : Value} (h : Bk W g t #[v0, v1, v2, v3, v4, v5]) (hb : Below W.heap.size W w') :
    (w'.cell? ⟨g, 0, none⟩ = some (v0) ∧ w'.cell? ⟨g, 1, none⟩ = some (v1) ∧ w'.cell? ⟨g, 2, none⟩ = some (v2) ∧ w'.cell? ⟨g, 3, none⟩ = some (v3) ∧ w'.cell? ⟨g, 4, none⟩ = some (v4) ∧ w'.cell? ⟨g, 5, none⟩ = some (v5)) := (h.later hb).c6.1
set_option maxRecDepth 100000 in
set_option maxHeartbeats 4000000 in
theorem l23Encode_any (A A' : Option Addr) (c c' : Nat) (r : Rep) (w : World) (hv : replayOk r = true) (h : Sl w 3 encInp A r.ins.length r.ins) (h' : Sl w 1 encInt A' r.hs.length r.hs) :
    Calls Tryd.prog 19 #[.agg #[.int .i64 r.lv, .int .i64 r.pl, .int .i64 r.sc, .slice A r.ins.length c, .slice A' r.hs.length c', .int .i64 r.tag]] w fun e w' => e = .returned (.string (st (encT r))) ∧ Below w.heap.size w w' := by
  obtain ⟨hvi, hn, hh⟩ := replayOk_bd hv
  have hn' : r.hs.length ≤ 12 := by omega
  clear hh
  obtain ⟨v1, v2, v3, v4, v5⟩ := enc_63 hv
  have v6 := pairs_63 hvi hn
  have h63 := trivial
  obtain ⟨ps, hps⟩ : ∃ ps, partsOf r.ins = ps := ⟨_, rfl⟩
  rw [hps] at v6
  have V4 := Lib.hid v4
  have V6 := Lib.hid v6
  obtain ⟨X8, hX8⟩ : ∃ X, encT r = X := ⟨_, rfl⟩
  rw [hX8]
  have HEN := Lib.hid (show X8 = lineB wReplay [r.lv, r.pl, r.sc] ++ lineB wInputs (pairsOf ps) ++ lineB wHashes r.hs ++ lineB wTag [r.tag] by rw [← hX8]; unfold encT; rw [hps])
  clear hX8
  clear v4 v6 h63
  have hpl : ps.length ≤ 60 := by
    have := (rparts_bd r.ins r.ins.length).1
    rw [List.take_length] at this
    rw [← hps]; unfold partsOf; rw [List.length_reverse]; omega
  have HPS := Lib.hid hps
  clear hps
  obtain ⟨i0, hi, hz0, hz1, hz2⟩ := info_parts Tryd.infoInt
  go_enter Tryd.func19, Tryd.ntmps19
  go_wp2_with fail
  refine (l23Parts_any A c r.ins _ (inputsOkB_iff.2 ⟨hvi, hn⟩) (h.below (by (with_reducible repeat first | assumption | exact bl0 _ _ | refine blA ?_ _ | (refine blS ?_ ?_ _; (simp <;> omega)) | refine blD ?_ | refine blN ?_ _ | refine blF ?_ ‹_›)))).mono ?_
  rw [HPS.out]
  rintro e w1 ⟨A1, c1, rfl, hc1, O1, hb1⟩
  have R1 : Bk w1 w.heap.size 30 #[.int .i64 r.lv, .int .i64 r.pl, .int .i64 r.sc, .slice A r.ins.length c, .slice A' r.hs.length c', .int .i64 r.tag] := Bk.later (by (repeat first | (with_reducible first | assumption | exact kN _ _ _ (by first | assumption | simp <;> omega) | refine kA ?_ _ | refine kD ?_ | refine kW ?_ _ | apply Bk.set' | refine kF ?_ (by simp <;> omega) _) | exact ⟨by with_reducible rfl⟩ | exact ⟨by simp⟩)) hb1
  have d1 : Below w.heap.size w w1 := below_after (by (with_reducible repeat first | assumption | exact bl0 _ _ | refine blA ?_ _ | (refine blS ?_ ?_ _; (simp <;> omega)) | refine blD ?_ | refine blN ?_ _ | refine blF ?_ ‹_›)) hb1
  have S1 := O1.sl' encPrt_len
  have y1 := R1.lt
  clear hb1 O1
  obtain ⟨⟨x0, x1, x2, x3, x4, x5⟩, xf⟩ := R1.c6
  go_wp2
  go_loopw [4, 5] (fun v i wr => ∃ k : Nat, k ≤ ps.length ∧ i = .int .i64 k ∧ Own wr w1.heap.size 3 1 encInt v (pairsOf (ps.take k)) ∧ Below w1.heap.size w1 wr) (fun _ i _ => ps.length - (intOf i).toNat)
  case atStart => exact ⟨0, Nat.zero_le _, rfl, own_nilI _ _ _ _ (Nat.le_refl _) rfl, below_alloc (Below.refl _ _) _⟩
  case round =>
    obtain ⟨k, hk, rfl, ho, hb⟩ := hrel
    have hpk : (pairsOf (ps.take k)).length = 2 * k := by rw [pairsOf_len, List.length_take, Nat.min_eq_left hk]
    have yb := hb.size
    by_cases hlt : k < ps.length
    · obtain ⟨b, off, p, rfl, hbl, hp, hc⟩ := S1.at_ hlt
      have q0 : w1.cell? ⟨b, off + k * 2, none⟩ = some (.int .i64 p.c) := hc 0 _ rfl
      have q1 : w1.cell? ⟨b, off + k * 2 + 1, none⟩ = some (.int .i64 p.m) := hc 1 _ rfl
      have HP := Lib.hid (pairsOf_snoc hp)
      have HL := Lib.hid hpk
      have HX := Lib.hid ho.lt
      clear hc hp hpk x0 x1 x2 x3 x4 x5 xf
      go_wp2
      go_region_held3 (fun w' => w'.cell? ⟨b, off + k * 2, none⟩ = some (.int .i64 p.c) ∧ w'.cell? ⟨b, off + k * 2 + 1, none⟩ = some (.int .i64 p.m))
        (first | (with_reducible exact keepTwo q0 q1 hbl hbl (by (with_reducible repeat first | assumption | exact bl0 _ _ | refine blA ?_ _ | (refine blS ?_ ?_ _; (simp <;> omega)) | refine blD ?_ | refine blN ?_ _ | refine blF ?_ ‹_›))) | (with_reducible exact keepTwo q0 q1 hbl hbl hB2))
        ((refine step_appL rfl (.tmp 16) (.tmp 27) _ rfl w1.heap.size 3 i0 (.int .i64 0) 1 8 Tryd.underlying23 hi hz0 hz1 hz2 rfl (by decide) encInt_len one_int _ (pairsOf (ps.take k)) [p.c, p.m] (by first | (simp [Act.eval]; done) | (simp [Act.eval]; rfl)) (own_drw (ho.alloc _)) _ 2 2 (by first | (simp [Act.eval]; done) | (simp [Act.eval]; rfl)) (sl_drw (sl_two wr _ _ _ _ rfl)) (by intro e; cases e) (by rw [HL.out]; unfold maxLen; omega) (by rw [HL.out]; omega) (by simp; omega) ?_; intro v2 w2 ho2 hg2 hv2; rw [← HP.out] at ho2; have hB2 : Below w1.heap.size w1 w2 := Below.grown (below_drew (below_alloc hb _)) hg2 (by simp; omega) (fun g e => (HX.out g e).1)))
      go_wp2
      go_roundw
      case rel => exact ⟨k + 1, by omega, by go_num, ho2, hB2⟩
      case measure => simp [intOf]; omega
    · obtain rfl : k = ps.length := by omega
      rw [List.take_length] at ho
      have d2 : Below w.heap.size w wr := below_after d1 hb
      have hnl : ¬ ((ps.length : Int) < (ps.length : Int)) := by omega
      have R2 := R1.later hb
      obtain ⟨L2, hL2⟩ : ∃ L, pairsOf ps = L := ⟨_, rfl⟩
      rw [hL2] at ho
      obtain ⟨A2, c2, rfl, hc2, _⟩ := ho.form
      have S2 := ho.sl' encInt_len
      have S3 : Sl wr 1 encInt A' r.hs.length r.hs := h'.below d2
      have zz := R2.lt
      obtain ⟨N1, hN1⟩ : ∃ N, numsB [r.lv, r.pl, r.sc] = N := ⟨_, rfl⟩
      obtain ⟨N2, hN2⟩ : ∃ N, numsB (pairsOf ps) = N := ⟨_, rfl⟩
      obtain ⟨N3, hN3⟩ : ∃ N, numsB r.hs = N := ⟨_, rfl⟩
      obtain ⟨N4, hN4⟩ : ∃ N, numsB [r.tag] = N := ⟨_, rfl⟩
      have l2 : L2.length ≤ 120 := by rw [← hL2, pairsOf_len]; omega
      have l1 : N1.length ≤ 66 := by rw [← hN1]; exact numsB_len _ (fun y hy => by simp only [List.mem_cons, List.not_mem_nil, or_false] at hy; rcases hy with rfl | rfl | rfl <;> assumption)
      have l22 : N2.length ≤ 2640 := by rw [← hN2]; have := numsB_len (pairsOf ps) V6.out; rw [hL2] at this ⊢; omega
      have l3 : N3.length ≤ 264 := by rw [← hN3]; have := numsB_len r.hs V4.out; omega
      have l4 : N4.length ≤ 22 := by rw [← hN4]; exact numsB_len _ (fun y hy => by simp only [List.mem_cons, List.not_mem_nil, or_false] at hy; rcases hy with rfl; assumption)
      have HEN2 := HEN.out
      unfold lineB at HEN2
      rw [hN1, hN2, hN3, hN4] at HEN2
      have V62 := V6.out
      rw [hL2] at V62 hN2
      have V63 := Lib.hid V62
      have H1 := Lib.hid hN1
      have H2 := Lib.hid hN2
      have H3 := Lib.hid hN3
      have H4 := Lib.hid hN4
      have w1v : Hid (∀ y ∈ [r.lv, r.pl, r.sc], int63 y) := Lib.hid (fun y hy => by simp only [List.mem_cons, List.not_mem_nil, or_false] at hy; rcases hy with rfl | rfl | rfl <;> assumption)
      have w4v : Hid (∀ y ∈ [r.tag], int63 y) := Lib.hid (fun y hy => by simp only [List.mem_cons, List.not_mem_nil, or_false] at hy; rcases hy with rfl; assumption)
      have e1 : ∀ W, (Op.stringOp .add ⟨#[114, 101, 112, 108, 97, 121]⟩ (st N1)).run Tryd.prog W = .ok (.string (st (wReplay ++ N1))) W := fun W => add_st (a := wReplay) W (by simp [wReplay]; omega) rfl
      have e2 : ∀ W, (Op.stringOp .add (st (wReplay ++ N1)) ⟨#[10, 105, 110, 112, 117, 116, 115]⟩).run Tryd.prog W = .ok (.string (st (wReplay ++ N1 ++ (10 :: wInputs)))) W := fun W => add_st (b := 10 :: wInputs) W (by simp [wReplay, wInputs]; omega) rfl
      generalize hY1 : wReplay ++ N1 = Y1 at e1 e2
      have y1l : Y1.length ≤ 72 := by rw [← hY1]; simp [wReplay]; omega
      generalize hY2 : Y1 ++ (10 :: wInputs) = Y2 at e2
      have y2l : Y2.length ≤ 79 := by rw [← hY2]; simp [wInputs]; omega
      have e3 : ∀ W, (Op.stringOp .add (st Y2) (st N2)).run Tryd.prog W = .ok (.string (st (Y2 ++ N2))) W := fun W => add_st W (by omega) rfl
      generalize hY3 : Y2 ++ N2 = Y3 at e3
      have y3l : Y3.length ≤ 2719 := by rw [← hY3, List.length_append]; omega
      have e4 : ∀ W, (Op.stringOp .add (st Y3) ⟨#[10, 104, 97, 115, 104, 101, 115]⟩).run Tryd.prog W = .ok (.string (st (Y3 ++ (10 :: wHashes)))) W := fun W => add_st (b := 10 :: wHashes) W (by simp [wHashes]; omega) rfl
      generalize hY4 : Y3 ++ (10 :: wHashes) = Y4 at e4
      have y4l : Y4.length ≤ 2726 := by rw [← hY4]; simp [wHashes]; omega
      have e5 : ∀ W, (Op.stringOp .add (st Y4) (st N3)).run Tryd.prog W = .ok (.string (st (Y4 ++ N3))) W := fun W => add_st W (by omega) rfl
      generalize hY5 : Y4 ++ N3 = Y5 at e5
      have y5l : Y5.length ≤ 2990 := by rw [← hY5, List.length_append]; omega
      have e6 : ∀ W, (Op.stringOp .add (st Y5) ⟨#[10, 116, 97, 103]⟩).run Tryd.prog W = .ok (.string (st (Y5 ++ (10 :: wTag)))) W := fun W => add_st (b := 10 :: wTag) W (by simp [wTag]; omega) rfl
      generalize hY6 : Y5 ++ (10 :: wTag) = Y6 at e6
      have y6l : Y6.length ≤ 2994 := by rw [← hY6]; simp [wTag]; omega
      have e7 : ∀ W, (Op.stringOp .add (st Y6) (st N4)).run Tryd.prog W = .ok (.string (st (Y6 ++ N4))) W := fun W => add_st W (by omega) rfl
      generalize hY7 : Y6 ++ N4 = Y7 at e7
      have y7l : Y7.length ≤ 3016 := by rw [← hY7, List.length_append]; omega
      have e8 : ∀ W, (Op.stringOp .add (st Y7) ⟨#[10]⟩).run Tryd.prog W = .ok (.string (st X8)) W := fun W => add_st (b := [10]) W (by simp; omega) (by rw [← hY7, ← hY6, ← hY5, ← hY4, ← hY3, ← hY2, ← hY1, HEN2]; simp)
      clear hN1 hN2 hN3 hN4 hL2 HEN2 V62 hY1 hY2 hY3 hY4 hY5 hY6 hY7 HEN x0 x1 x2 x3 x4 x5 xf
      obtain ⟨⟨x0, x1, x2, x3, x4, x5⟩, xf⟩ := R2.c6
      go_wp2
      go_region_held3 (fun w' => (w'.cell? ⟨w.heap.size, 0, none⟩ = some (.int .i64 r.lv) ∧ w'.cell? ⟨w.heap.size, 1, none⟩ = some (.int .i64 r.pl) ∧ w'.cell? ⟨w.heap.size, 2, none⟩ = some (.int .i64 r.sc) ∧ w'.cell? ⟨w.heap.size, 3, none⟩ = some (.slice A r.ins.length c) ∧ w'.cell? ⟨w.heap.size, 4, none⟩ = some (.slice A' r.hs.length c') ∧ w'.cell? ⟨w.heap.size, 5, none⟩ = some (.int .i64 r.tag)))
        (first | (with_reducible exact keepSix R2 (by (with_reducible repeat first | assumption | exact bl0 _ _ | refine blA ?_ _ | (refine blS ?_ ?_ _; (simp <;> omega)) | refine blD ?_ | refine blN ?_ _ | refine blF ?_ ‹_›))))
        (first
        | (go_at_call 41; (fail_if_success clear hb7); refine (l23Numbers_any _ 3 [r.lv, r.pl, r.sc] _ (by (repeat (first | (with_reducible assumption) | exact sl_three _ _ _ _ _ _ (by first | rfl | (simp; done)) | (with_reducible refine sl_drw ?_) | (with_reducible refine sl_all ?_ _) | (with_reducible refine Sl.below ?_ ‹_›)))) (by simp) w1v.out).mono ?_; rw [H1.out]; rintro e u7 ⟨rfl, hb7⟩)
        | (go_at_call 41; (fail_if_success clear hb8); refine (l23Numbers_any A2 c2 L2 _ (S2.below (by (with_reducible repeat first | assumption | exact bl0 _ _ | refine blA ?_ _ | (refine blS ?_ ?_ _; (simp <;> omega)) | refine blD ?_ | refine blN ?_ _ | refine blF ?_ ‹_›))) (by omega) V63.out).mono ?_; rw [H2.out]; rintro e u8 ⟨rfl, hb8⟩)
        | (go_at_call 41; (fail_if_success clear hb9); refine (l23Numbers_any A' c' r.hs _ (S3.below (by (with_reducible repeat first | assumption | exact bl0 _ _ | refine blA ?_ _ | (refine blS ?_ ?_ _; (simp <;> omega)) | refine blD ?_ | refine blN ?_ _ | refine blF ?_ ‹_›))) (by omega) V4.out).mono ?_; rw [H3.out]; rintro e u9 ⟨rfl, hb9⟩)
        | (go_at_call 41; (fail_if_success clear hb10); refine (l23Numbers_any _ 1 [r.tag] _ (by (repeat (first | (with_reducible assumption) | exact sl_one1 _ _ _ _ (by first | rfl | (simp; done)) | (with_reducible refine sl_drw ?_) | (with_reducible refine sl_all ?_ _) | (with_reducible refine Sl.below ?_ ‹_›)))) (by simp) w4v.out).mono ?_; rw [H4.out]; rintro e u10 ⟨rfl, hb10⟩)
        | fail "no arm")
      all_goals
        have D10 : Below wr.heap.size wr u10 := by (with_reducible repeat first | assumption | exact bl0 _ _ | refine blA ?_ _ | (refine blS ?_ ?_ _; (simp <;> omega)) | refine blD ?_ | refine blN ?_ _ | refine blF ?_ ‹_›)
        have D11 := below_after d2 D10
        go_wp2
        go_ret
        exact ⟨rfl, D11⟩
end Go.Proofs.YtdpoicfciogfnaaDoor
