/- Draws of inputs: l92Any; DrawReplayParts. -/
import Derived.Test.YtkendoffknjpiaaDrC
import Derived.Test.YtkendoffknjpiaaPrtsR
namespace Go.Proofs.Ytkendoffknjpiaa
open Go.ChangeShapes Go.WideShapes Go.ChangeAt Go.RowKit
theorem inpOk_sm {x : Inp} (h : inpOk x = true) : smI x := by
  have := inpOk_bd h
  unfold smI
  omega
theorem Sl.lits {α : Type} {enc : α → List Value} {sz : Nat} (w : World) (T : TypeId) (cs : Array Value) (l : List α) (g n : Nat) (he : ∀ x, (enc x).length = sz) (hg : w.heap.size = g) (hn : l.length = n) (h : cs.toList = l.flatMap enc) : Sl (w.alloc (.cells cs T)) sz enc (some ⟨g, 0, none⟩) n l := by
  subst hg hn
  refine ⟨rfl, fun _ => ⟨w.heap.size, 0, rfl, by simp, fun k x hk j v hv => ?_⟩⟩
  have h1 := flatMap_at he l k x j v hk hv
  have h2 := (Blk.new w cs T).2 (k * sz + j) v (by rw [h]; exact h1)
  rw [Nat.zero_add]
  exact h2
def AnyP (ins : List Inp) : Prop := (∀ x ∈ ins, smI x) ∧ ins.length ≤ 63
set_option maxRecDepth 100000 in
set_option maxHeartbeats 4000000 in
theorem l92Any_any (l : Lev) (A A' : Option Addr) (c c' : Nat) (R n : Nat) (w : World) (h : RdL w R n) (hn : n ≤ 700000) (hl : LevD l) (hW : Sl w 4 encBx A l.walls.length l.walls) (hG : Sl w 4 encBx A' l.gates.length l.gates)
    (hA : ∀ a, A = some a → R < a.block ∧ a.block < w.heap.size) (hA' : ∀ a, A' = some a → R < a.block ∧ a.block < w.heap.size) :
    Calls Try.prog 76 #[.pointer (some ⟨R, 0, none⟩), .agg #[.int .i64 l.id, .int .i64 l.ticks, .int .i64 l.start.x, .int .i64 l.start.y, .slice A l.walls.length c, .slice A' l.gates.length c', .int .i64 l.fin.lo.x, .int .i64 l.fin.lo.y, .int .i64 l.fin.hi.x, .int .i64 l.fin.hi.y, .int .i64 l.bans]] w (RetIns AnyP R (n + 220) w) := by
  have hRl := h.lt
  obtain ⟨i0, hi, hz0, hz1, hz2⟩ := info_parts Try.infoInp
  go_enter Try.func76, Try.ntmps76
  go_wp2_with fail
  refine (l92Run_any l A A' c c' R n _ (by (repeat (first | (with_reducible assumption) | (with_reducible refine RdL.alloc ?_ _) | (with_reducible refine RdL.drew ?_) | (with_reducible refine RdL.drewN ?_ _) | (with_reducible refine RdL.far ?_ (by first | omega | (simp; done) | (simp; omega)) _) | (with_reducible refine RdL.later ?_ (by assumption))))) (by omega) hl (hW.below (below_alloc (Below.refl _ _) _)) (hG.below (below_alloc (Below.refl _ _) _)) (fun a e => ⟨(hA a e).1, by have := (hA a e).2; simp; omega⟩) (fun a e => ⟨(hA' a e).1, by have := (hA' a e).2; simp; omega⟩)).mono ?_
  rintro e w1 ⟨out, Av, cv, rfl, hleg, hO1, hR1, hg1⟩
  have hsm : ∀ x ∈ out, smI x := fun x hx => inpOk_sm (legal_inps hleg x hx)
  have hol : out.length ≤ 60 := (legal_len hleg hl.t1 hl.t0).1
  have HSM := Lib.hid hsm
  have hgr1 : w.grownBy w1 (some R) := by (repeat (first | (with_reducible assumption) | (with_reducible exact grownBy_refl _ _) | (with_reducible refine gr_alloc ?_ _) | (with_reducible refine gr_set (by first | omega | (simp; done) | (simp; omega)) ?_ _) | (with_reducible refine gr_drew ?_) | (with_reducible refine gr_drewN ?_ _) | (with_reducible refine gr_after ?_ (by assumption)) | (with_reducible refine gr_below ?_ (by assumption))))
  have hs1 := hg1.size
  simp only [World.size_alloc] at hs1
  have hRl1 := hR1.lt
  clear hsm hleg hg1
  go_wp2_with fail
  refine (pick_n R (n + 200) 12 _ (by (repeat (first | (with_reducible assumption) | (with_reducible refine RdL.alloc ?_ _) | (with_reducible refine RdL.drew ?_) | (with_reducible refine RdL.drewN ?_ _) | (with_reducible refine RdL.far ?_ (by first | omega | (simp; done) | (simp; omega)) _) | (with_reducible refine RdL.later ?_ (by assumption))))) (by omega) (by omega) (by omega)).mono ?_
  rintro e w2 ⟨p1, rfl, p1_0, p1_1, hR2, hg2⟩
  have hO2 := (hO1.mono (B' := w.heap.size + 1) (by simp)).gk hg2 (by omega)
  have hgr2 : w.grownBy w2 (some R) := by (repeat (first | (with_reducible assumption) | (with_reducible exact grownBy_refl _ _) | (with_reducible refine gr_alloc ?_ _) | (with_reducible refine gr_set (by first | omega | (simp; done) | (simp; omega)) ?_ _) | (with_reducible refine gr_drew ?_) | (with_reducible refine gr_drewN ?_ _) | (with_reducible refine gr_after ?_ (by assumption)) | (with_reducible refine gr_below ?_ (by assumption))))
  have hs2 := hg2.size
  have hRl2 := hR2.lt
  have hnc := hO2.none_cap
  clear hg2 hO1 hgr1 hR1
  have hlto := hO2.lt
  by_cases h0 : p1 = 0
  · subst h0
    go_wp2_with (at_builtin; refine wp_appL rfl _ _ _ rfl (w.heap.size + 1) 60 i0 (.agg #[.int .i64 0, .int .i64 0, .bool false]) 3 24 Try.underlying33 hi hz0 hz1 hz2 rfl (by decide) encInp_len one_inp _ out [⟨0, 0, false⟩, ⟨0, 1, false⟩] rfl (hO2.alloc _) _ 2 2 rfl (Sl.lits _ _ _ _ _ 2 encInp_len rfl rfl rfl) (by intro e; cases e) (by unfold maxLen; omega) (by omega) (by simp; omega) ?_; intro v9 w9 O9 hg9 hl9; obtain ⟨A9, c9, rfl, hc9, _⟩ := O9.form)
    refine bodyPost_ret (v := .slice A9 (out ++ [(⟨0, 0, false⟩ : Inp), ⟨0, 1, false⟩]).length c9) (by simp [results, Try.results76, go_sem]) rfl ⟨_, A9, c9, rfl, ⟨?_, by simp; omega⟩, O9.mono (by omega), ?_, ?_⟩
    · intro x hx
      rcases List.mem_append.1 hx with hx | hx
      · exact HSM.out x hx
      · simp only [List.mem_cons, List.not_mem_nil, or_false] at hx
        rcases hx with rfl | rfl <;> (unfold smI; simp only; omega)
    · exact ((hR2.alloc _).own hg9 (fun g e => by have := (hlto g e).1; omega)).more (by omega)
    · exact gr_own (gr_alloc hgr2 _) hg9 (fun g e => by have := (hlto g e).1; omega)
  · have hb0 : (p1 == 0) = false := by simpa using h0
    by_cases h1 : p1 = 1
    · subst h1
      by_cases hpos : (0 : Int) < (out.length : Int)
      · go_wp2_with fail
        refine (pick_n R (n + 201) (out.length : Int) _ (by (repeat (first | (with_reducible assumption) | (with_reducible refine RdL.alloc ?_ _) | (with_reducible refine RdL.drew ?_) | (with_reducible refine RdL.drewN ?_ _) | (with_reducible refine RdL.far ?_ (by first | omega | (simp; done) | (simp; omega)) _) | (with_reducible refine RdL.later ?_ (by assumption))))) (by omega) (by omega) (by omega)).mono ?_
        rintro e w3 ⟨kz, rfl, k0, k1, hR3, hg3⟩
        obtain ⟨k, rfl⟩ := Int.eq_ofNat_of_zero_le k0
        have hO3 := hO2.gk hg3 (by omega)
        have hgr3 : w.grownBy w3 (some R) := by (repeat (first | (with_reducible assumption) | (with_reducible exact grownBy_refl _ _) | (with_reducible refine gr_alloc ?_ _) | (with_reducible refine gr_set (by first | omega | (simp; done) | (simp; omega)) ?_ _) | (with_reducible refine gr_drew ?_) | (with_reducible refine gr_drewN ?_ _) | (with_reducible refine gr_after ?_ (by assumption)) | (with_reducible refine gr_below ?_ (by assumption))))
        have hs3 := hg3.size
        have hRl3 := hR3.lt
        clear hg3 hO2 hgr2 hR2 hlto
        go_wp2_with fail
        refine (l91Input_any R (n + 202) _ (by (repeat (first | (with_reducible assumption) | (with_reducible refine RdL.alloc ?_ _) | (with_reducible refine RdL.drew ?_) | (with_reducible refine RdL.drewN ?_ _) | (with_reducible refine RdL.far ?_ (by first | omega | (simp; done) | (simp; omega)) _) | (with_reducible refine RdL.later ?_ (by assumption))))) (by omega)).mono ?_
        rintro e w4 ⟨x, rfl, hx, hR4, hg4⟩
        have hO4 := hO3.gk hg4 (by omega)
        have hgr4 : w.grownBy w4 (some R) := by (repeat (first | (with_reducible assumption) | (with_reducible exact grownBy_refl _ _) | (with_reducible refine gr_alloc ?_ _) | (with_reducible refine gr_set (by first | omega | (simp; done) | (simp; omega)) ?_ _) | (with_reducible refine gr_drew ?_) | (with_reducible refine gr_drewN ?_ _) | (with_reducible refine gr_after ?_ (by assumption)) | (with_reducible refine gr_below ?_ (by assumption))))
        have hs4 := hg4.size
        have hRl4 := hR4.lt
        have HX := Lib.hid hx
        clear hg4 hO3 hgr3 hR3 hx
        obtain ⟨g, rfl⟩ : ∃ g, Av = some ⟨g, 0, none⟩ := by
          rcases hO4.2 with ⟨e1, e2⟩ | ⟨g, cap, cur, e1, _⟩
          · omega
          · injection e1 with e1; exact ⟨g, e1⟩
        have hk : k < out.length := by omega
        obtain ⟨⟨y0, q0⟩, f0⟩ := own_slot hO4 hk 0 (by omega)
        obtain ⟨⟨y1, q1⟩, f1⟩ := own_slot hO4 hk 1 (by omega)
        obtain ⟨⟨y2, q2⟩, f2⟩ := own_slot hO4 hk 2 (by omega)
        simp only [Nat.add_zero] at q0 f0
        obtain ⟨hP, hgP⟩ := hO4.put encInp_len k hk x
        have hgb := (hO4.lt g rfl).1
        have hgB := hO4.lt g rfl
        have hlen : (out.set k x).length = out.length := List.length_set ..
        have hRP := hR4.own hgP (fun g2 e => by cases e; omega)
        have hgrP := gr_own hgr4 hgP (fun g2 e => by cases e; omega)
        go_wp2
        refine bodyPost_ret (v := .slice (some ⟨g, 0, none⟩) out.length cv) (by simp [results, Try.results76, go_sem]) rfl ⟨out.set k x, some ⟨g, 0, none⟩, cv, by rw [hlen], ⟨?_, by rw [hlen]; omega⟩, ?_, hRP.more (by omega), hgrP⟩
        · intro y hy
          rcases List.mem_or_eq_of_mem_set hy with hy | rfl
          · exact HSM.out y hy
          · exact HX.out
        · rw [hlen]
          exact hP.mono (by omega)
      · go_wp2
        exact bodyPost_ret (v := .slice Av out.length cv) (by simp [results, Try.results76, go_sem]) rfl ⟨out, Av, cv, rfl, ⟨HSM.out, by omega⟩, hO2.mono (by omega), hR2.more (by omega), hgr2⟩
    · have hb1 : (p1 == 1) = false := by simpa using h1
      by_cases h2 : p1 = 2
      · subst h2
        go_wp2_with fail
        refine (l91Input_any R (n + 201) _ (by (repeat (first | (with_reducible assumption) | (with_reducible refine RdL.alloc ?_ _) | (with_reducible refine RdL.drew ?_) | (with_reducible refine RdL.drewN ?_ _) | (with_reducible refine RdL.far ?_ (by first | omega | (simp; done) | (simp; omega)) _) | (with_reducible refine RdL.later ?_ (by assumption))))) (by omega)).mono ?_
        rintro e w3 ⟨x1, rfl, hx1, hR3, hg3⟩
        have hO3 := hO2.gk hg3 (by omega)
        have hgr3 : w.grownBy w3 (some R) := by (repeat (first | (with_reducible assumption) | (with_reducible exact grownBy_refl _ _) | (with_reducible refine gr_alloc ?_ _) | (with_reducible refine gr_set (by first | omega | (simp; done) | (simp; omega)) ?_ _) | (with_reducible refine gr_drew ?_) | (with_reducible refine gr_drewN ?_ _) | (with_reducible refine gr_after ?_ (by assumption)) | (with_reducible refine gr_below ?_ (by assumption))))
        have hs3 := hg3.size
        have hRl3 := hR3.lt
        clear hg3 hO2 hgr2 hR2 hlto
        go_wp2_with fail
        refine (l91Input_any R (n + 201 + 3) _ (by (repeat (first | (with_reducible assumption) | (with_reducible refine RdL.alloc ?_ _) | (with_reducible refine RdL.drew ?_) | (with_reducible refine RdL.drewN ?_ _) | (with_reducible refine RdL.far ?_ (by first | omega | (simp; done) | (simp; omega)) _) | (with_reducible refine RdL.later ?_ (by assumption))))) (by omega)).mono ?_
        rintro e w4 ⟨x2, rfl, hx2, hR4, hg4⟩
        have hO4 := hO3.gk hg4 (by omega)
        have hgr4 : w.grownBy w4 (some R) := by (repeat (first | (with_reducible assumption) | (with_reducible exact grownBy_refl _ _) | (with_reducible refine gr_alloc ?_ _) | (with_reducible refine gr_set (by first | omega | (simp; done) | (simp; omega)) ?_ _) | (with_reducible refine gr_drew ?_) | (with_reducible refine gr_drewN ?_ _) | (with_reducible refine gr_after ?_ (by assumption)) | (with_reducible refine gr_below ?_ (by assumption))))
        have hs4 := hg4.size
        have hRl4 := hR4.lt
        clear hg4 hO3 hgr3 hR3
        go_wp2_with fail
        refine (l91Input_any R (n + 201 + 3 + 3) _ (by (repeat (first | (with_reducible assumption) | (with_reducible refine RdL.alloc ?_ _) | (with_reducible refine RdL.drew ?_) | (with_reducible refine RdL.drewN ?_ _) | (with_reducible refine RdL.far ?_ (by first | omega | (simp; done) | (simp; omega)) _) | (with_reducible refine RdL.later ?_ (by assumption))))) (by omega)).mono ?_
        rintro e w5 ⟨x3, rfl, hx3, hR5, hg5⟩
        have hO5 := hO4.gk hg5 (by omega)
        have hgr5 : w.grownBy w5 (some R) := by (repeat (first | (with_reducible assumption) | (with_reducible exact grownBy_refl _ _) | (with_reducible refine gr_alloc ?_ _) | (with_reducible refine gr_set (by first | omega | (simp; done) | (simp; omega)) ?_ _) | (with_reducible refine gr_drew ?_) | (with_reducible refine gr_drewN ?_ _) | (with_reducible refine gr_after ?_ (by assumption)) | (with_reducible refine gr_below ?_ (by assumption))))
        have hs5 := hg5.size
        have hRl5 := hR5.lt
        clear hg5 hO4 hgr4 hR4
        have hlto := hO5.lt
        have HX1 := Lib.hid hx1
        have HX2 := Lib.hid hx2
        have HX3 := Lib.hid hx3
        clear hx1 hx2 hx3
        go_wp2_with (at_builtin; refine wp_appL rfl _ _ _ rfl (w.heap.size + 1) 60 i0 (.agg #[.int .i64 0, .int .i64 0, .bool false]) 3 24 Try.underlying33 hi hz0 hz1 hz2 rfl (by decide) encInp_len one_inp _ out [x1, x2, x3] rfl (hO5.alloc _) _ 3 3 rfl (Sl.lits _ _ _ _ _ 3 encInp_len rfl rfl rfl) (by intro e; cases e) (by unfold maxLen; omega) (by omega) (by simp; omega) ?_; intro v9 w9 O9 hg9 hl9; obtain ⟨A9, c9, rfl, hc9, _⟩ := O9.form)
        refine bodyPost_ret (v := .slice A9 (out ++ [x1, x2, x3]).length c9) (by simp [results, Try.results76, go_sem]) rfl ⟨_, A9, c9, rfl, ⟨?_, by simp; omega⟩, O9.mono (by omega), ?_, ?_⟩
        · intro x hx
          rcases List.mem_append.1 hx with hx | hx
          · exact HSM.out x hx
          · simp only [List.mem_cons, List.not_mem_nil, or_false] at hx
            rcases hx with rfl | rfl | rfl
            · exact HX1.out
            · exact HX2.out
            · exact HX3.out
        · exact ((hR5.alloc _).own hg9 (fun g e => by have := (hlto g e).1; omega)).more (by omega)
        · exact gr_own (gr_alloc hgr5 _) hg9 (fun g e => by have := (hlto g e).1; omega)
      · have hb2 : (p1 == 2) = false := by simpa using h2
        go_wp2
        exact bodyPost_ret (v := .slice Av out.length cv) (by simp [results, Try.results76, go_sem]) rfl ⟨out, Av, cv, rfl, ⟨HSM.out, by omega⟩, hO2.mono (by omega), hR2.more (by omega), hgr2⟩
/-- A call hands back drawn inputs, and turns nothing that was there. -/
def RetAny (P : List Inp → Prop) (w : World) (e : Ending) (w' : World) : Prop :=
  ∃ (ins : List Inp) (A : Option Addr) (c : Nat), e = .returned (.slice A ins.length c) ∧ P ins ∧ Own w' w.heap.size 60 3 encInp (.slice A ins.length c) ins ∧ Below w.heap.size w w'
theorem drawReplayParts_any (A : Option Addr) (n c : Nat) (l : List Int) (w : World) (h : Sl w 1 encU8 A n l) (hl : ∀ x ∈ l, 0 ≤ x ∧ x < 256) (hn : n ≤ 9223372036854775807) (hnc : n ≤ c) (hc : c ≤ 9223372036854775807) :
    Calls Try.prog 46 #[.slice A n c] w (RetAny AnyP w) := by
  go_enter Try.func46, Try.ntmps46
  go_wp2_with fail
  refine (l6Open_n A n c l _ h hl hn hnc hc).mono ?_
  rintro e w1 ⟨R, rfl, hRw, hR1, hb1⟩
  have hRl := hR1.lt
  go_wp2_with fail
  refine (l91Level_any R 0 _ hR1 (by omega)).mono ?_
  rintro e w2 ⟨lv, A2, c2, A3, c3, rfl, hLD, hW2, hG2, hR2, hg2⟩
  have hs2 := hg2.size
  go_wp2_with fail
  refine (l92Any_any lv A2 A3 c2 c3 R (0 + 40) _ hR2 (by omega) hLD (hW2.sl' encBx_len) (hG2.sl' encBx_len) (fun a e => ?_) (fun a e => ?_)).mono ?_
  · subst e
    have := hW2.lt a.block rfl
    omega
  · subst e
    have := hG2.lt a.block rfl
    omega
  rintro e w3 ⟨ins, A4, c4, rfl, hP, hO3, hR3, hg3⟩
  have hd2 := hb1.grown hg2 hb1.size (fun k e => by cases e; exact hRw)
  have hd3 := hd2.grown hg3 hd2.size (fun k e => by cases e; exact hRw)
  have hs1 := hd2.size
  go_wp2
  exact bodyPost_ret (v := .slice A4 ins.length c4) (by simp [results, Try.results46, go_sem]) rfl ⟨ins, A4, c4, rfl, hP, hO3.mono hs1, hd3⟩
end Go.Proofs.Ytkendoffknjpiaa
