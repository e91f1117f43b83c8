/- Draws of replays that lie: l92Lie. -/
import Derived.Test.YtdpoicfciogfnaaDoorDrF
import Derived.Test.YtdpoicfciogfnaaDoorZRun
import Derived.Deep.CutBlock
import Derived.Deep.CutRange
import Derived.Deep.LoopGhost
import Derived.Deep.RegionHeld3
namespace Go.Proofs.YtdpoicfciogfnaaDoor
open Go.ChangeShapes Go.WideShapes Go.ChangeAt Go.RowKit
/-- What is known of a replay that lies. -/
structure LieP (r : Rep) : Prop where
  lv : 0 ≤ r.lv ∧ r.lv ≤ 100
  pl : -1 ≤ r.pl ∧ r.pl ≤ 10
  sc : -1 ≤ r.sc ∧ r.sc ≤ 61
  ins : ∀ x ∈ r.ins, smI x
  nin : r.ins.length ≤ 61
  hs : hsB r.hs
  nhs : r.hs.length ≤ 14
  tag : 0 ≤ r.tag ∧ r.tag ≤ 1000002
theorem LieP.of_ok {r : Rep} (h : replayOk r = true) : LieP r := by
  simp only [replayOk, Bool.and_eq_true, inR_iff] at h
  obtain ⟨h1, h2, h3, h4, h5, h6, h7⟩ := h
  obtain ⟨hv, hl⟩ := inputsOkB_iff.1 h4
  have h8 := inR_iff.1 h6
  refine ⟨by omega, by omega, by omega, fun x hx => inpOk_sm (hv x hx), by omega, fun x hx => inR_iff.1 (List.all_eq_true.1 h7 x hx), ?_, h8⟩
  unfold lenB at h5
  simp at h5
  omega
theorem Own.ne2 {α β : Type} {w : World} {B B' : Nat} {T T' : TypeId} {sz sz' : Nat} {enc : α → List Value} {enc' : β → List Value} {v v' : Value} {l : List α} {l' : List β} (h : Own w B T sz enc v l) (h' : Own w B' T' sz' enc' v' l') (hT : T ≠ T') :
    ∀ g g', v.ownBlock = some g → v'.ownBlock = some g' → g ≠ g' := by
  intro g g' e e' e2
  subst e2
  rcases h.2 with ⟨rfl, _⟩ | ⟨g2, cap, cur, rfl, hB, hgg, rest⟩
  · cases e
  rcases h'.2 with ⟨rfl, _⟩ | ⟨g3, cap3, cur3, rfl, hB3, hgg3, rest3⟩
  · cases e'
  simp only [Value.ownBlock, Option.some.injEq] at e e'
  subst e
  subst e'
  rw [hgg] at hgg3
  injection hgg3 with h1
  injection h1 with _ h2
  exact hT h2
def RetLie (R n : Nat) (w : World) (e : Ending) (w' : World) : Prop :=
  ∃ r A c A' c', e = .returned (.agg #[.int .i64 r.lv, .int .i64 r.pl, .int .i64 r.sc, .slice A r.ins.length c, .slice A' r.hs.length c', .int .i64 r.tag]) ∧ LieP r ∧ Own w' w.heap.size 68 3 encInp (.slice A r.ins.length c) r.ins ∧ Own w' w.heap.size 3 1 encInt (.slice A' r.hs.length c') r.hs ∧ RdL w' R n ∧ w.grownBy w' (some R)
/-- What stands in the midst of l92Lie. -/
structure LieS (R n : Nat) (r : Rep) (A1 : Option Addr) (c1 : Nat) (A2 : Option Addr) (c2 : Nat) (w u : World) : Prop where
  B : Bk u w.heap.size 30 #[.int .i64 r.lv, .int .i64 r.pl, .int .i64 r.sc, .slice A1 r.ins.length c1, .slice A2 r.hs.length c2, .int .i64 r.tag]
  C : Bk u (w.heap.size + 1) 30 #[.int .i64 0, .int .i64 0, .int .i64 0, .slice none 0 0, .slice none 0 0, .int .i64 0]
  P : Own u (w.heap.size + 2) 68 3 encInp (.slice A1 r.ins.length c1) r.ins
  O : Own u (w.heap.size + 2) 3 1 encInt (.slice A2 r.hs.length c2) r.hs
  r : RdL u R n
  g : w.grownBy u (some R)
  z : w.heap.size + 1 < u.heap.size
theorem LieS.rd {R n m : Nat} {r : Rep} {A1 A2 : Option Addr} {c1 c2 : Nat} {w u u' : World} (h : LieS R n r A1 c1 A2 c2 w u) (hR : R < w.heap.size) (hg : u.grownBy u' (some R)) (hr : RdL u' R m) : LieS R m r A1 c1 A2 c2 w u' :=
  ⟨h.B.grown hg (by intro e; injection e; omega), h.C.grown hg (by intro e; injection e; omega), h.P.gk hg (by omega), h.O.gk hg (by omega), hr, gr_after h.g hg, Nat.lt_of_lt_of_le h.z hg.size⟩
/-- One of the replay's numbers is written. -/
theorem LieS.num {R n i : Nat} {r r2 : Rep} {A1 A2 : Option Addr} {c1 c2 : Nat} {w u : World} {v : Value} (h : LieS R n r A1 c1 A2 c2 w u) (hR : R < w.heap.size) (hi : r2.ins = r.ins) (hh : r2.hs = r.hs)
    (hs : (#[.int .i64 r.lv, .int .i64 r.pl, .int .i64 r.sc, .slice A1 r.ins.length c1, .slice A2 r.hs.length c2, .int .i64 r.tag] : Array Value).setIfInBounds i v = #[.int .i64 r2.lv, .int .i64 r2.pl, .int .i64 r2.sc, .slice A1 r2.ins.length c1, .slice A2 r2.hs.length c2, .int .i64 r2.tag]) : LieS R n r2 A1 c1 A2 c2 w (u.setCell ⟨w.heap.size, i, none⟩ v) :=
  ⟨h.B.set' (SetTo.mk hs), h.C.far (by simp) _, by rw [hi]; exact h.P.set (by simp) _, by rw [hh]; exact h.O.set (by simp) _, h.r.far hR _, gr_set (Nat.le_refl _) h.g _, by have := h.z; simpa using this⟩
theorem LieS.more {R n m : Nat} {r : Rep} {A1 A2 : Option Addr} {c1 c2 : Nat} {w u : World} (h : LieS R n r A1 c1 A2 c2 w u) (hm : n ≤ m) : LieS R m r A1 c1 A2 c2 w u := ⟨h.B, h.C, h.P, h.O, h.r.more hm, h.g, h.z⟩
set_option maxRecDepth 100000 in
set_option maxHeartbeats 4000000 in
theorem l92Lie_any (r : Rep) (key : Int) (A A' : Option Addr) (c c' : Nat) (R n : Nat) (w : World) (h : RdL w R n) (hn : n ≤ 800000) (hr : LieP r) (hk : 1 ≤ key ∧ key ≤ 9999)
    (hs : Sl w 3 encInp A r.ins.length r.ins) (hs' : Sl w 1 encInt A' r.hs.length r.hs) (hA : A = none → c = 0) (hA' : A' = none → c' = 0) (hnin : r.ins.length ≤ 60) (hnhs : r.hs.length ≤ 12) :
    Calls Tryd.prog 54 #[.pointer (some ⟨R, 0, none⟩), .int .i64 key, .agg #[.int .i64 r.lv, .int .i64 r.pl, .int .i64 r.sc, .slice A r.ins.length c, .slice A' r.hs.length c', .int .i64 r.tag]] w (RetLie R (n + 12) w) := by
  have hRl := h.lt
  obtain ⟨i0, hi, hz0, hz1, hz2⟩ := info_parts Tryd.infoInp
  obtain ⟨j0, hj, yz0, yz1, yz2⟩ := info_parts Tryd.infoInt
  obtain ⟨lv, pl, sc, ins, hsh, tag⟩ := r
  simp only at hs hs' hnin hnhs
  have hkey : int64 key := by unfold int64; omega
  go_enter Tryd.func54, Tryd.ntmps54
  go_wp2_with (first
    | (at_builtin; refine wp_appL rfl _ _ _ rfl (w.heap.size + 2) 68 i0 (.agg #[.int .i64 0, .int .i64 0, .bool false]) 3 24 Tryd.underlying28 hi hz0 hz1 hz2 rfl (by decide) encInp_len one_inp _ [] ins rfl (own_nil_inp _ _ _ _ (by simp) (by simp)) A ins.length c rfl (hs.below (below_alloc (below_alloc (below_alloc (Below.refl _ _) _) _) _)) hA (by have e0 : ([] : List Inp).length = 0 := rfl; unfold maxLen; omega) (by have e0 : ([] : List Inp).length = 0 := rfl; omega) (by simp) ?_; intro v1 w1 O1 hg1 hl1; rw [List.nil_append] at O1; obtain ⟨A1, c1, rfl, hc1, _⟩ := O1.form; have hd1 : Below w.heap.size w w1 := (below_alloc (below_alloc (below_alloc (Below.refl _ _) _) _) _).grown hg1 (by simp; omega) (fun g e => by cases e; (try dsimp only); omega); have B1 : Bk w1 w.heap.size 30 #[.int .i64 lv, .int .i64 pl, .int .i64 sc, .slice A ins.length c, .slice A' hsh.length c', .int .i64 tag] := Bk.grown (by (repeat first | (with_reducible first | assumption | exact kN _ _ _ (by simp) | refine kA ?_ _ | refine kD ?_ | refine kW ?_ _ | apply Bk.set' | refine kF ?_ (by simp <;> omega) _ | refine kL ?_ ‹_› | refine kG ?_ ‹_› (by first | omega | simp <;> omega)) | exact ⟨by with_reducible rfl⟩ | exact ⟨by simp⟩)) hg1 (by intro e; injection e with e <;> first | omega | (simp at e <;> omega)); have C1 : Bk w1 (w.heap.size + 1) 30 #[.int .i64 0, .int .i64 0, .int .i64 0, .slice none 0 0, .slice none 0 0, .int .i64 0] := Bk.grown (Bk.alloc (Bk.new _ _ _ (by simp; done)) _) hg1 (by intro e; injection e with e <;> first | omega | (simp at e <;> omega)); have zB1 := B1.lt; have zC1 := C1.lt; obtain ⟨⟨b0, b1, b2, b3, b4, b5⟩, bf⟩ := B1.c6)
    | (at_builtin; refine wp_appL rfl _ _ _ rfl (w.heap.size + 2) 3 j0 (.int .i64 0) 1 8 Tryd.underlying23 hj yz0 yz1 yz2 rfl (by decide) encInt_len one_int _ [] hsh rfl (own_nil_at _ _ _ _ (by simp; omega) (by simp)) A' hsh.length c' rfl (hs'.below (by (with_reducible repeat first | assumption | exact bl0 _ _ | refine blA ?_ _ | (refine blS ?_ ?_ _; (simp <;> omega)) | refine blD ?_ | refine blN ?_ _ | refine blF ?_ ‹_›))) hA' (by have e0 : ([] : List Int).length = 0 := rfl; unfold maxLen; omega) (by have e0 : ([] : List Int).length = 0 := rfl; omega) (by simp; omega) ?_; intro v2 w2 O2 hg2 hl2; rw [List.nil_append] at O2; obtain ⟨A2, c2, rfl, hc2, _⟩ := O2.form; have B2 : Bk w2 w.heap.size 30 #[.int .i64 lv, .int .i64 pl, .int .i64 sc, .slice A1 ins.length c1, .slice A' hsh.length c', .int .i64 tag] := Bk.grown (by (repeat first | (with_reducible first | assumption | exact kN _ _ _ (by simp) | refine kA ?_ _ | refine kD ?_ | refine kW ?_ _ | apply Bk.set' | refine kF ?_ (by simp <;> omega) _ | refine kL ?_ ‹_› | refine kG ?_ ‹_› (by first | omega | simp <;> omega)) | exact ⟨by with_reducible rfl⟩ | exact ⟨by simp⟩)) hg2 (by intro e; injection e with e <;> first | omega | (simp at e <;> omega)); have C2 : Bk w2 (w.heap.size + 1) 30 #[.int .i64 0, .int .i64 0, .int .i64 0, .slice none 0 0, .slice none 0 0, .int .i64 0] := Bk.grown ((C1.far (by simp; done) _).alloc _) hg2 (by intro e; injection e with e <;> first | omega | (simp at e <;> omega)); have P2 : Own w2 (w.heap.size + 2) 68 3 encInp (.slice A1 ins.length c1) ins := ((O1.set (by first | omega | (simp; done) | (simp; omega)) _).alloc _).keptN hg2 (fun g e e2 => by have := (O1.lt g e).2; injection e2 with e2 <;> first | omega | (simp at e2 <;> omega)); have hd2 : Below w.heap.size w w2 := Below.grown (by (with_reducible repeat first | assumption | exact bl0 _ _ | refine blA ?_ _ | (refine blS ?_ ?_ _; (simp <;> omega)) | refine blD ?_ | refine blN ?_ _ | refine blF ?_ ‹_›)) hg2 (by have := hd1.size; simp; omega) (fun g e => by have := hd1.size; cases e; (try dsimp only); omega); have zB2 := B2.lt; have zC2 := C2.lt; obtain ⟨⟨b0, b1, b2, b3, b4, b5⟩, bf⟩ := B2.c6))
  have B3 : Bk (w2.setCell ⟨w.heap.size, 4, none⟩ (.slice A2 hsh.length c2)) w.heap.size 30 #[.int .i64 lv, .int .i64 pl, .int .i64 sc, .slice A1 ins.length c1, .slice A2 hsh.length c2, .int .i64 tag] := B2.set' (SetTo.mk (by simp))
  have C3 := C2.far (p := ⟨w.heap.size, 4, none⟩) (by simp) (.slice A2 hsh.length c2)
  have P3 := P2.set (p := ⟨w.heap.size, 4, none⟩) (by simp) (.slice A2 hsh.length c2)
  have O3 := O2.set (p := ⟨w.heap.size, 4, none⟩) (by simp) (.slice A2 hsh.length c2)
  have hd3 := below_setCell (p := ⟨w.heap.size, 4, none⟩) (Nat.le_refl _) hd2 (.slice A2 hsh.length c2)
  have hR3 := h.later hd3
  have hz3 : w.heap.size + 1 < (w2.setCell ⟨w.heap.size, 4, none⟩ (.slice A2 hsh.length c2)).heap.size := by simp; omega
  clear B1 C1 O1 hd1 hg1 hl1 hc1 B2 C2 P2 O2 hd2 hg2 hl2 b0 b1 b2 b3 b4 b5 bf hs hs' zB1 zC1 zB2 zC2
  generalize (w2.setCell ⟨w.heap.size, 4, none⟩ (.slice A2 hsh.length c2)) = w3 at *
  refine (pick_n R n 9 _ hR3 (by omega) (by omega) (by omega)).mono ?_
  rintro e w4 ⟨p1, rfl, p1_0, p1_1, hR4, hg4⟩
  have B4 := B3.grown hg4 (by intro e; injection e; omega)
  have C4 := C3.grown hg4 (by intro e; injection e; omega)
  have P4 := P3.gk hg4 (by omega)
  have O4 := O3.gk hg4 (by omega)
  have hgr4 : w.grownBy w4 (some R) := gr_after (gr_below (grownBy_refl _ _) hd3) hg4
  have hz4 : w.heap.size + 1 < w4.heap.size := Nat.lt_of_lt_of_le hz3 hg4.size
  have hRl4 := hR4.lt
  clear B3 C3 P3 O3 hd3 hR3 hz3 hg4
  have S4 : LieS R (n + 1) ⟨lv, pl, sc, ins, hsh, tag⟩ A1 c1 A2 c2 w w4 := ⟨B4, C4, P4, O4, hR4, hgr4, hz4⟩
  clear B4 C4 P4 O4 hR4 hgr4 hz4
  have hlvp := hr.lv
  have hplp := hr.pl
  have hscp := hr.sc
  have htgp := hr.tag
  have HI := Lib.hid hr.ins
  have HH := Lib.hid hr.hs
  simp only at hlvp hplp hscp htgp
  clear hr
  go_upto_block 0 with fail
  go_cut [] from 19 (fun wc => ∃ (r2 : Rep) (B1 : Option Addr) (d1 : Nat) (B2 : Option Addr) (d2 : Nat), LieP r2 ∧ LieS R (n + 8) r2 B1 d1 B2 d2 w wc)
  case first =>
    obtain ⟨⟨b0, b1, b2, b3, b4, b5⟩, bf⟩ := S4.B.c6
    have zN := S4.z
    by_cases q0 : p1 = 0
    · subst q0
      go_wp2_with fail
      refine (pick_n R (n + 1) 63 _ S4.r (by omega) (by omega) (by omega)).mono ?_
      rintro e w5 ⟨x, rfl, x0, x1, hR5, hg5⟩
      have S5 := S4.rd hRl hg5 hR5
      clear S4 hg5 hR5 b0 b1 b2 b3 b4 b5 bf
      obtain ⟨⟨b0, b1, b2, b3, b4, b5⟩, bf⟩ := S5.B.c6
      have zN5 := S5.z
      go_wp2_with fail
      go_meet
      exact ⟨⟨lv, pl, x - 1, ins, hsh, tag⟩, A1, c1, A2, c2, ⟨hlvp, hplp, by simp only; omega, HI.out, by simp only; omega, HH.out, by simp only; omega, htgp⟩, (S5.num (i := 2) (r2 := ⟨lv, pl, x - 1, ins, hsh, tag⟩) (v := .int .i64 (x - 1)) hRl rfl rfl (by simp)).more (by omega)⟩
    · have e0 : (p1 == 0) = false := by simpa using q0
      by_cases q1 : p1 = 1
      · subst q1
        go_wp2_with fail
        refine (l92Hashes_any A2 hsh.length c2 hsh R (n + 1) _ S4.r (by omega) (S4.O.sl' encInt_len) S4.O.none_cap HH.out (by omega)).mono ?_
        rintro e w5 ⟨hs2, A5, c5, rfl, hb5, hl5, hO5, hR5, hg5⟩
        have S5 := S4.rd hRl hg5 hR5
        have hO5' := hO5.mono (B' := w.heap.size + 2) (by omega)
        have hO5n : ∀ g, (Value.slice A5 hs2.length c5).ownBlock = some g → g ≠ w.heap.size := fun g e => by have := (hO5'.lt g e).1; omega
        clear S4 hg5 hR5 b0 b1 b2 b3 b4 b5 bf
        obtain ⟨⟨b0, b1, b2, b3, b4, b5⟩, bf⟩ := S5.B.c6
        have zN5 := S5.z
        go_wp2_with fail
        go_meet
        exact ⟨⟨lv, pl, sc, ins, hs2, tag⟩, A1, c1, A5, c5, ⟨hlvp, hplp, hscp, HI.out, by simp only; omega, hb5, by simp only; omega, htgp⟩,
          ⟨S5.B.set' (SetTo.mk (by simp)), S5.C.far (by simp) _, S5.P.set (by simp) _, hO5'.set (by simp) _, (S5.r.far hRl _).more (by omega), gr_set (Nat.le_refl _) S5.g _, by have := S5.z; simpa using this⟩⟩
      · have e1 : (p1 == 1) = false := by simpa using q1
        by_cases q2 : p1 = 2
        · subst q2
          by_cases hpos : (0 : Int) < (ins.length : Int)
          · obtain ⟨g, rfl⟩ : ∃ g, A1 = some ⟨g, 0, none⟩ := by
              rcases S4.P.2 with ⟨_, e2⟩ | ⟨g, cap, cur, e1, _⟩
              · simp only at e2; omega
              · injection e1 with e1; exact ⟨g, e1⟩
            have S4d : LieS R (n + 1) ⟨lv, pl, sc, ins, hsh, tag⟩ (some ⟨g, 0, none⟩) c1 A2 c2 w w4.drew := ⟨S4.B, S4.C, S4.P, S4.O, S4.r, gr_drew S4.g, S4.z⟩
            go_wp2_with fail
            go_region_held3 (fun w' => w'.cell? ⟨w.heap.size, 3, none⟩ = some (.slice (some ⟨g, 0, none⟩) ins.length c1))
              (first | (with_reducible exact S4d.B.c6.1.2.2.2.1) | (with_reducible exact S5.B.c6.1.2.2.2.1) | (with_reducible exact S6.B.c6.1.2.2.2.1) | (exact B7.c6.1.2.2.2.1))
              (first
              | (go_simp; go_at_call 72; refine (pick_n R (n + 1) (ins.length : Int) _ S4d.r (by omega) (by omega) (by omega)).mono ?_; rintro e w5 ⟨kz, rfl, k0, k1, hR5, hg5⟩; obtain ⟨k, rfl⟩ := Int.eq_ofNat_of_zero_le k0; have S5 := S4d.rd hRl hg5 hR5)
              | (go_simp; go_at_call 76; refine (l91Input_any R (n + 1 + 1) _ S5.r (by omega)).mono ?_; rintro e w6 ⟨x, rfl, hx, hR6, hg6⟩; have S6 := S5.rd hRl hg6 hR6; have hk : k < ins.length := (by omega); have HX := Lib.hid hx; obtain ⟨⟨y0, q0⟩, f0⟩ := own_slot S6.P hk 0 (by omega); obtain ⟨⟨y1, q1⟩, f1⟩ := own_slot S6.P hk 1 (by omega); obtain ⟨⟨y2, q2⟩, f2⟩ := own_slot S6.P hk 2 (by omega); simp only [Nat.add_zero] at q0 f0; obtain ⟨hP, hgP⟩ := S6.P.put encInp_len k hk x; have hgB := S6.P.lt g rfl; have B7 := S6.B.grown hgP (by intro e; injection e with e; omega)))
            have hlen : (ins.set k x).length = ins.length := List.length_set ..
            have hne2 := S6.P.ne2 S6.O (by decide)
            have S7 : LieS R (n + 1 + 1 + 3) ⟨lv, pl, sc, ins.set k x, hsh, tag⟩ (some ⟨g, 0, none⟩) c1 A2 c2 w (putAll w6 g (k * 3) (encInp x)) :=
              ⟨by rw [show (⟨lv, pl, sc, ins.set k x, hsh, tag⟩ : Rep).ins.length = ins.length from hlen]; exact B7, S6.C.grown hgP (by intro e; injection e with e; omega), by rw [show (⟨lv, pl, sc, ins.set k x, hsh, tag⟩ : Rep).ins.length = ins.length from hlen]; exact hP,
               S6.O.keptN hgP (fun g2 e e2 => by injection e2 with e2; exact hne2 g g2 rfl e e2), S6.r.own hgP (fun g2 e => by injection e with e; omega), gr_own S6.g hgP (fun g2 e => by injection e with e; omega), Nat.lt_of_lt_of_le S6.z hgP.size⟩
            clear S4 S4d S5 S6 hP hgP B7 q0 q1 q2 f0 f1 f2 b0 b1 b2 b3 b4 b5 bf
            go_wp2_with fail
            go_meet
            exact ⟨⟨lv, pl, sc, ins.set k x, hsh, tag⟩, some ⟨g, 0, none⟩, c1, A2, c2, ⟨hlvp, hplp, hscp, fun y hy => by rcases List.mem_or_eq_of_mem_set hy with hy | rfl; exact HI.out y hy; exact HX.out, by rw [show (⟨lv, pl, sc, ins.set k x, hsh, tag⟩ : Rep).ins.length = ins.length from hlen]; omega, HH.out, by simp only; omega, htgp⟩, S7.more (by omega)⟩
          · go_wp2_with fail
            go_meet
            exact ⟨⟨lv, pl, sc, ins, hsh, tag⟩, A1, c1, A2, c2, ⟨hlvp, hplp, hscp, HI.out, by simp only; omega, HH.out, by simp only; omega, htgp⟩, S4.more (by omega)⟩
        · have e2 : (p1 == 2) = false := by simpa using q2
          by_cases q3 : p1 = 3
          · subst q3
            go_wp2_with fail
            refine (pick_n R (n + 1) 101 _ S4.r (by omega) (by omega) (by omega)).mono ?_
            rintro e w5 ⟨x, rfl, x0, x1, hR5, hg5⟩
            have S5 := S4.rd hRl hg5 hR5
            clear S4 hg5 hR5 b0 b1 b2 b3 b4 b5 bf
            obtain ⟨⟨b0, b1, b2, b3, b4, b5⟩, bf⟩ := S5.B.c6
            have zN5 := S5.z
            go_wp2_with fail
            go_meet
            exact ⟨⟨x, pl, sc, ins, hsh, tag⟩, A1, c1, A2, c2, ⟨by simp only; omega, hplp, hscp, HI.out, by simp only; omega, HH.out, by simp only; omega, htgp⟩, (S5.num (i := 0) (r2 := ⟨x, pl, sc, ins, hsh, tag⟩) (v := .int .i64 x) hRl rfl rfl (by simp)).more (by omega)⟩
          · have e3 : (p1 == 3) = false := by simpa using q3
            by_cases q4 : p1 = 4
            · subst q4
              go_wp2_with fail
              refine (pick_n R (n + 1) 12 _ S4.r (by omega) (by omega) (by omega)).mono ?_
              rintro e w5 ⟨x, rfl, x0, x1, hR5, hg5⟩
              have S5 := S4.rd hRl hg5 hR5
              clear S4 hg5 hR5 b0 b1 b2 b3 b4 b5 bf
              obtain ⟨⟨b0, b1, b2, b3, b4, b5⟩, bf⟩ := S5.B.c6
              have zN5 := S5.z
              go_wp2_with fail
              go_meet
              exact ⟨⟨lv, x - 1, sc, ins, hsh, tag⟩, A1, c1, A2, c2, ⟨hlvp, by simp only; omega, hscp, HI.out, by simp only; omega, HH.out, by simp only; omega, htgp⟩, (S5.num (i := 1) (r2 := ⟨lv, x - 1, sc, ins, hsh, tag⟩) (v := .int .i64 (x - 1)) hRl rfl rfl (by simp)).more (by omega)⟩
            · have e4 : (p1 == 4) = false := by simpa using q4
              by_cases q5 : p1 = 5
              · subst q5
                go_wp2_with fail
                refine (pick_n R (n + 1) 100 _ S4.r (by omega) (by omega) (by omega)).mono ?_
                rintro e w5 ⟨x, rfl, x0, x1, hR5, hg5⟩
                have S5 := S4.rd hRl hg5 hR5
                clear S4 hg5 hR5 b0 b1 b2 b3 b4 b5 bf
                obtain ⟨⟨b0, b1, b2, b3, b4, b5⟩, bf⟩ := S5.B.c6
                have zN5 := S5.z
                go_wp2_with fail
                refine (pick_n R (n + 1 + 1) 100 _ S5.r (by omega) (by omega) (by omega)).mono ?_
                rintro e w6 ⟨y, rfl, y0, y1, hR6, hg6⟩
                have S6 := S5.rd hRl hg6 hR6
                clear S5 hg6 hR6 b0 b1 b2 b3 b4 b5 bf zN5
                obtain ⟨⟨b0, b1, b2, b3, b4, b5⟩, bf⟩ := S6.B.c6
                have zN6 := S6.z
                go_wp2_with fail
                go_meet
                exact ⟨⟨lv, pl, sc, ins, hsh, 10000 * x + y⟩, A1, c1, A2, c2, ⟨hlvp, hplp, hscp, HI.out, by simp only; omega, HH.out, by simp only; omega, by simp only; omega⟩, (S6.num (i := 5) (r2 := ⟨lv, pl, sc, ins, hsh, 10000 * x + y⟩) (v := .int .i64 (10000 * x + y)) hRl rfl rfl (by simp)).more (by omega)⟩
              · have e5 : (p1 == 5) = false := by simpa using q5
                by_cases q6 : p1 = 6
                · subst q6
                  have hlto := fun g e => (S4.P.lt g e).1
                  have hzz := S4.z
                  have hne2 := S4.P.ne2 S4.O (by decide)
                  obtain ⟨ins2, hi2⟩ : ∃ y, ins ++ [(⟨0, 1, false⟩ : Inp)] = y := ⟨_, rfl⟩
                  have hil2 : ins2.length ≤ 61 := by rw [← hi2]; simp; omega
                  have hsm2 : Hid (∀ x ∈ ins2, smI x) := Lib.hid (by
                    intro x hx
                    rw [← hi2] at hx
                    rcases List.mem_append.1 hx with hx | hx
                    · exact HI.out x hx
                    · rw [List.mem_singleton] at hx; subst hx; unfold smI; simp only; omega)
                  have HI2 := Lib.hid hi2
                  clear hi2
                  go_wp2_with (at_builtin; refine wp_appL rfl _ _ _ rfl (w.heap.size + 2) 68 i0 (.agg #[.int .i64 0, .int .i64 0, .bool false]) 3 24 Tryd.underlying28 hi hz0 hz1 hz2 rfl (by decide) encInp_len one_inp _ ins [(⟨0, 1, false⟩ : Inp)] rfl (S4.P.alloc _) _ 1 1 rfl (Sl.one _ _ _ _ rfl) (by intro e; cases e) (by unfold maxLen; omega) (by omega) (by simp; omega) ?_; intro v5 w5 P5 hg5 hl5; rw [HI2.out] at P5; obtain ⟨A5, c5, rfl, hc5, _⟩ := P5.form; have B5 := (S4.B.alloc (.cells #[.int .i64 0, .int .i64 1, .bool false] 68)).grown hg5 (by intro e; have := hlto _ e.symm; omega); have zB5 := B5.lt; obtain ⟨⟨d0, d1, d2, d3, d4, d5⟩, df⟩ := B5.c6)
                  have S5 : LieS R (n + 1) ⟨lv, pl, sc, ins2, hsh, tag⟩ A5 c5 A2 c2 w (w5.setCell ⟨w.heap.size, 3, none⟩ (.slice A5 ins2.length c5)) :=
                    ⟨B5.set' (SetTo.mk (by simp)), ((S4.C.alloc _).grown hg5 (by intro e; have := hlto _ e.symm; omega)).far (by simp) _, P5.set (by simp) _, ((S4.O.alloc _).keptN hg5 (fun g e e2 => hne2 _ _ e2 e rfl)).set (by simp) _,
                     ((S4.r.alloc _).own hg5 (fun g e => by have := hlto _ e; omega)).far hRl _, gr_set (Nat.le_refl _) (gr_own (gr_alloc S4.g _) hg5 (fun g e => by have := hlto _ e; omega)) _, by have := hg5.size; simp at this ⊢; omega⟩
                  clear S4 hg5 hl5 B5 P5 d0 d1 d2 d3 d4 d5 df b0 b1 b2 b3 b4 b5 bf hlto hne2
                  go_loopg [] (13 - hsh.length) (fun q wr => ∃ (hs2 : List Int) (B2 : Option Addr) (d2 : Nat), q = 13 - hs2.length ∧ hs2.length ≤ 12 ∧ hsB hs2 ∧ LieS R (n + 1) ⟨lv, pl, sc, ins2, hs2, tag⟩ A5 c5 B2 d2 w wr)
                  case atStart => exact ⟨hsh, A2, c2, rfl, hnhs, HH.out, S5⟩
                  case round =>
                    obtain ⟨hs2, B2, d2, hq, hl2, hb2, hS⟩ := hrel
                    have HB2 := Lib.hid hb2
                    have Hq := Lib.hid hq
                    clear S5 hb2 hq
                    obtain ⟨⟨b0, b1, b2, b3, b4, b5⟩, bf⟩ := hS.B.c6
                    have zN := hS.z
                    by_cases hlt : (hs2.length : Int) < (ins2.length : Int) / 5
                    · have hlto := fun g e => (hS.O.lt g e).1
                      have hne2 := hS.P.ne2 hS.O (by decide)
                      go_wp2_with (at_builtin; refine wp_appL rfl _ _ _ rfl (w.heap.size + 2) 3 j0 (.int .i64 0) 1 8 Tryd.underlying23 hj yz0 yz1 yz2 rfl (by decide) encInt_len one_int _ hs2 [5] rfl (hS.O.alloc _) _ 1 1 rfl (Sl.one _ (5 : Int) _ _ rfl) (by intro e; cases e) (by unfold maxLen; omega) (by omega) (by simp; omega) ?_; intro v6 w6 O6 hg6 hl6; obtain ⟨A6, c6, hv6, hc6, _⟩ := O6.form; rw [List.length_append, List.length_singleton] at hv6; subst hv6; have B6 := (hS.B.alloc (.cells #[.int .i64 5] 3)).grown hg6 (by intro e; have := hlto _ e.symm; omega); have zB6 := B6.lt; obtain ⟨⟨d0, d1, d2, d3, d4, d5⟩, df⟩ := B6.c6)
                      have S6 : LieS R (n + 1) ⟨lv, pl, sc, ins2, hs2 ++ [5], tag⟩ A5 c5 A6 c6 w (w6.setCell ⟨w.heap.size, 4, none⟩ (.slice A6 (hs2.length + 1) c6)) :=
                        ⟨B6.set' (SetTo.mk (by simp)), ((hS.C.alloc _).grown hg6 (by intro e; have := hlto _ e.symm; omega)).far (by simp) _, ((hS.P.alloc _).keptN hg6 (fun g e e2 => hne2 _ _ e e2 rfl)).set (by simp) _,
                         (by rw [show (⟨lv, pl, sc, ins2, hs2 ++ [5], tag⟩ : Rep).hs.length = hs2.length + 1 from List.length_append ..]; exact O6.set (by simp) _),
                         ((hS.r.alloc _).own hg6 (fun g e => by have := hlto _ e; omega)).far hRl _, gr_set (Nat.le_refl _) (gr_own (gr_alloc hS.g _) hg6 (fun g e => by have := hlto _ e; omega)) _, by have := hg6.size; simp at this ⊢; omega⟩
                      go_roundg (13 - (hs2.length + 1))
                      case measure => have := Hq.out; omega
                      case rel => exact ⟨hs2 ++ [5], A6, c6, by simp, by simp; omega, fun x hx => by rcases List.mem_append.1 hx with hx | hx; exact HB2.out x hx; rw [List.mem_singleton] at hx; subst hx; omega, S6⟩
                    · go_wp2_with fail
                      go_meet
                      exact ⟨⟨lv, pl, sc, ins2, hs2, tag⟩, A5, c5, B2, d2, ⟨hlvp, hplp, hscp, hsm2.out, hil2, HB2.out, by simp only; omega, htgp⟩, hS.more (by omega)⟩
                · have e6 : (p1 == 6) = false := by simpa using q6
                  go_wp2_with fail
                  go_meet
                  exact ⟨⟨lv, pl, sc, ins, hsh, tag⟩, A1, c1, A2, c2, ⟨hlvp, hplp, hscp, HI.out, by simp only; omega, HH.out, by simp only; omega, htgp⟩, S4.more (by omega)⟩
  case rest =>
    obtain ⟨r2, B1, d1, B2, d2, hL, hS⟩ := hcut
    clear S4 HI HH hlvp hplp hscp htgp
    obtain ⟨lv2, pl2, sc2, ins2, hs2, tag2⟩ := r2
    have hRl2 := hS.r.lt
    have hni2 := hL.nin
    have hnh2 := hL.nhs
    simp only at hni2 hnh2
    go_wp2_with fail
    refine (pick_n R (n + 8) 2 _ hS.r (by omega) (by omega) (by omega)).mono ?_
    rintro e w5 ⟨x, rfl, x0, x1, hR5, hg5⟩
    have S5 := hS.rd hRl hg5 hR5
    clear hS hg5 hR5
    by_cases q0 : x = 0
    · subst q0
      obtain ⟨⟨b0, b1, b2, b3, b4, b5⟩, bf⟩ := S5.B.c6
      have zN5 := S5.z
      go_wp2_with fail
      refine (specReplayValid_any _ _ _ _ ⟨lv2, pl2, sc2, ins2, hs2, tag2⟩ _ (S5.P.sl' encInp_len) (S5.O.sl' encInt_len) (by simp only; omega) (by simp only; omega)).mono ?_
      rintro e w6 ⟨rfl, hb6⟩
      have S6 : LieS R (n + 9) ⟨lv2, pl2, sc2, ins2, hs2, tag2⟩ B1 d1 B2 d2 w w6 := ⟨S5.B.later hb6, S5.C.later hb6, S5.P.later hb6, S5.O.later hb6, S5.r.later hb6, gr_below S5.g hb6, Nat.lt_of_lt_of_le S5.z hb6.size⟩
      clear S5 hb6 b0 b1 b2 b3 b4 b5 bf zN5
      cases hv : replayOk ⟨lv2, pl2, sc2, ins2, hs2, tag2⟩
      · obtain ⟨⟨b0, b1, b2, b3, b4, b5⟩, bf⟩ := S6.B.c6; obtain ⟨⟨c0, c1, c2, c3, c4, c5⟩, cf⟩ := S6.C.c6
        have zN := S6.z
        go_wp2
        refine bodyPost_ret (v := .agg #[.int .i64 lv2, .int .i64 pl2, .int .i64 sc2, .slice B1 ins2.length d1, .slice B2 hs2.length d2, .int .i64 tag2]) (by simp [results, Tryd.results54, go_sem, *]) rfl ⟨⟨lv2, pl2, sc2, ins2, hs2, tag2⟩, B1, d1, B2, d2, rfl, hL, ?_, ?_, ?_, ?_⟩
        · refine Own.mono (B := w.heap.size + 2) ?_ (by omega)
          have hP := S6.P
          (with_reducible repeat first | assumption | refine Own.fars ?_ ‹_› _ | refine Own.alloc ?_ _ | refine Own.drew ?_ | refine Own.drewN ?_ _ | refine Own.set (by first | omega | simp <;> omega) ?_ _ | refine Own.later ?_ ‹_› | refine Own.gk ?_ ‹_› (by omega))
        · refine Own.mono (B := w.heap.size + 2) ?_ (by omega)
          have hO := S6.O
          (with_reducible repeat first | assumption | refine Own.fars ?_ ‹_› _ | refine Own.alloc ?_ _ | refine Own.drew ?_ | refine Own.drewN ?_ _ | refine Own.set (by first | omega | simp <;> omega) ?_ _ | refine Own.later ?_ ‹_› | refine Own.gk ?_ ‹_› (by omega))
        · have hr := S6.r.more (show _ ≤ n + 12 by omega)
          (with_reducible repeat first | assumption | refine RdL.alloc ?_ _ | refine RdL.drew ?_ | refine RdL.drewN ?_ _ | refine RdL.far ?_ (by first | omega | simp <;> omega) _ | refine RdL.later ?_ ‹_›)
        · have hg := S6.g
          (with_reducible repeat first | assumption | exact grownBy_refl _ _ | refine gr_alloc ?_ _ | refine gr_set (by first | omega | simp <;> omega) ?_ _ | refine gr_drew ?_ | refine gr_drewN ?_ _ | refine gr_after ?_ ‹_› | refine gr_below ?_ ‹_›)
      · go_wp2_with fail
        refine (l6In_yes key 1 9999 _ hk).mono ?_
        rintro e w7 ⟨rfl, rfl⟩
        obtain ⟨⟨b0, b1, b2, b3, b4, b5⟩, bf⟩ := S6.B.c6
        have zN5 := S6.z
        have hbd := repList_bd hv
        have hrl := repList_len ⟨lv2, pl2, sc2, ins2, hs2, tag2⟩
        simp only at hrl
        have hln : (repList ⟨lv2, pl2, sc2, ins2, hs2, tag2⟩).length ≤ 200 := by omega
        clear hrl
        go_wp2_with fail
        refine (l23List_any _ _ _ _ ⟨lv2, pl2, sc2, ins2, hs2, tag2⟩ _ hv (S6.P.sl' encInp_len) (S6.O.sl' encInt_len) S6.O.none_cap).mono ?_
        generalize repList ⟨lv2, pl2, sc2, ins2, hs2, tag2⟩ = ls at *
        rintro e w8 ⟨A8, c8, rfl, hc8, hO8, hb8⟩
        have S8 : LieS R (n + 9) ⟨lv2, pl2, sc2, ins2, hs2, tag2⟩ B1 d1 B2 d2 w w8 := ⟨S6.B.later hb8, S6.C.later hb8, S6.P.later hb8, S6.O.later hb8, S6.r.later hb8, gr_below S6.g hb8, Nat.lt_of_lt_of_le S6.z hb8.size⟩
        clear S6 hb8 b0 b1 b2 b3 b4 b5 bf zN5
        go_wp2_with fail
        refine (l4Tag_any key _ _ _ ls _ (hO8.sl' encInt_len) (by omega) hkey (fun y hy => by have := hbd y hy; unfold int64; omega)).mono ?_
        have htb := tagL_bd key ls
        generalize tagL key ls = tg at *
        rintro e w9 ⟨rfl, rfl⟩
        have SN := S8.num (i := 5) (r2 := ⟨lv2, pl2, sc2, ins2, hs2, tg⟩) (v := .int .i64 tg) hRl rfl rfl (by simp)
        have hL2 : LieP ⟨lv2, pl2, sc2, ins2, hs2, tg⟩ := ⟨hL.lv, hL.pl, hL.sc, hL.ins, hL.nin, hL.hs, hL.nhs, htb⟩
        obtain ⟨⟨b0, b1, b2, b3, b4, b5⟩, bf⟩ := S8.B.c6; obtain ⟨⟨c0, c1, c2, c3, c4, c5⟩, cf⟩ := S8.C.c6
        have zN := S8.z
        clear hO8 hbd htb
        go_wp2
        refine bodyPost_ret (v := .agg #[.int .i64 lv2, .int .i64 pl2, .int .i64 sc2, .slice B1 ins2.length d1, .slice B2 hs2.length d2, .int .i64 tg]) (by simp [results, Tryd.results54, go_sem, *]) rfl ⟨⟨lv2, pl2, sc2, ins2, hs2, tg⟩, B1, d1, B2, d2, rfl, hL2, ?_, ?_, ?_, ?_⟩
        · refine Own.mono (B := w.heap.size + 2) ?_ (by omega)
          have hP := S8.P
          (with_reducible repeat first | assumption | refine Own.fars ?_ ‹_› _ | refine Own.alloc ?_ _ | refine Own.drew ?_ | refine Own.drewN ?_ _ | refine Own.set (by first | omega | simp <;> omega) ?_ _ | refine Own.later ?_ ‹_› | refine Own.gk ?_ ‹_› (by omega))
        · refine Own.mono (B := w.heap.size + 2) ?_ (by omega)
          have hO := S8.O
          (with_reducible repeat first | assumption | refine Own.fars ?_ ‹_› _ | refine Own.alloc ?_ _ | refine Own.drew ?_ | refine Own.drewN ?_ _ | refine Own.set (by first | omega | simp <;> omega) ?_ _ | refine Own.later ?_ ‹_› | refine Own.gk ?_ ‹_› (by omega))
        · have hr := S8.r.more (show _ ≤ n + 12 by omega)
          (with_reducible repeat first | assumption | refine RdL.alloc ?_ _ | refine RdL.drew ?_ | refine RdL.drewN ?_ _ | refine RdL.far ?_ (by first | omega | simp <;> omega) _ | refine RdL.later ?_ ‹_›)
        · have hg := S8.g
          (with_reducible repeat first | assumption | exact grownBy_refl _ _ | refine gr_alloc ?_ _ | refine gr_set (by first | omega | simp <;> omega) ?_ _ | refine gr_drew ?_ | refine gr_drewN ?_ _ | refine gr_after ?_ ‹_› | refine gr_below ?_ ‹_›)
    · have e0 : (x == 0) = false := by simpa using q0
      obtain ⟨⟨b0, b1, b2, b3, b4, b5⟩, bf⟩ := S5.B.c6; obtain ⟨⟨c0, c1, c2, c3, c4, c5⟩, cf⟩ := S5.C.c6
      have zN := S5.z
      go_wp2
      refine bodyPost_ret (v := .agg #[.int .i64 lv2, .int .i64 pl2, .int .i64 sc2, .slice B1 ins2.length d1, .slice B2 hs2.length d2, .int .i64 tag2]) (by simp [results, Tryd.results54, go_sem, *]) rfl ⟨⟨lv2, pl2, sc2, ins2, hs2, tag2⟩, B1, d1, B2, d2, rfl, hL, ?_, ?_, ?_, ?_⟩
      · refine Own.mono (B := w.heap.size + 2) ?_ (by omega)
        have hP := S5.P
        (with_reducible repeat first | assumption | refine Own.fars ?_ ‹_› _ | refine Own.alloc ?_ _ | refine Own.drew ?_ | refine Own.drewN ?_ _ | refine Own.set (by first | omega | simp <;> omega) ?_ _ | refine Own.later ?_ ‹_› | refine Own.gk ?_ ‹_› (by omega))
      · refine Own.mono (B := w.heap.size + 2) ?_ (by omega)
        have hO := S5.O
        (with_reducible repeat first | assumption | refine Own.fars ?_ ‹_› _ | refine Own.alloc ?_ _ | refine Own.drew ?_ | refine Own.drewN ?_ _ | refine Own.set (by first | omega | simp <;> omega) ?_ _ | refine Own.later ?_ ‹_› | refine Own.gk ?_ ‹_› (by omega))
      · have hr := S5.r.more (show _ ≤ n + 12 by omega)
        (with_reducible repeat first | assumption | refine RdL.alloc ?_ _ | refine RdL.drew ?_ | refine RdL.drewN ?_ _ | refine RdL.far ?_ (by first | omega | simp <;> omega) _ | refine RdL.later ?_ ‹_›)
      · have hg := S5.g
        (with_reducible repeat first | assumption | exact grownBy_refl _ _ | refine gr_alloc ?_ _ | refine gr_set (by first | omega | simp <;> omega) ?_ _ | refine gr_drew ?_ | refine gr_drewN ?_ _ | refine gr_after ?_ ‹_› | refine gr_below ?_ ‹_›)
end Go.Proofs.YtdpoicfciogfnaaDoor
