/- Draws of parts: DrawReplayInputs. -/
import Derived.Test.YtkendoffknjpiaaDrD
import Derived.Test.YtkendoffknjpiaaPLaw
namespace Go.Proofs.Ytkendoffknjpiaa
open Go.ChangeShapes Go.WideShapes Go.ChangeAt Go.RowKit
/-- A call hands back drawn parts, and turns nothing that was there. -/
def RetPts (w : World) (e : Ending) (w' : World) : Prop :=
  ∃ (ps : List Prt) (A : Option Addr) (c : Nat), e = .returned (.slice A ps.length c) ∧ ps.length ≤ 61 ∧ Own w' w.heap.size 63 2 encPrt (.slice A ps.length c) ps ∧ Below w.heap.size w w'
theorem partsL_len60 (l : List Inp) : (partsL l).length ≤ 60 := by
  unfold partsL
  cases h : inputsOkB l with
  | false => simp
  | true =>
    have h1 := (rparts_bd l l.length).1
    rw [List.take_length] at h1
    have h2 := (inputsOkB_iff.1 h).2
    simp [partsOf]
    omega
theorem set_self {l : List Value} {i : Nat} {v : Value} (h : l[i]? = some v) : l.set i v = l := by
  apply List.ext_getElem?
  intro j
  rw [List.getElem?_set]
  split
  · rename_i e
    subst e
    rw [if_pos (List.getElem?_eq_some_iff.1 h).1, h]
  · rfl
theorem Own.put2m {w : World} {B : Nat} {T : TypeId} {g n cap k : Nat} {l : List Prt} {y : Prt} (h : Own w B T 2 encPrt (.slice (some ⟨g, 0, none⟩) n cap) l) (hk : l[k]? = some y) (m : Int) :
    Own (w.setCell ⟨g, k * 2 + 1, none⟩ (.int .i64 m)) B T 2 encPrt (.slice (some ⟨g, 0, none⟩) n cap) (l.set k ⟨y.c, m⟩) := by
  obtain ⟨A', c', e, _⟩ := h.form
  have hn : n = l.length := by injection e
  subst hn
  have hlt := (List.getElem?_eq_some_iff.1 hk).1
  obtain ⟨h1, _⟩ := World.ownsRow.stored h (k * 2 + 1) (.int .i64 m)
  have e1 : (l.flatMap encPrt).set (k * 2 + 1) (.int .i64 m) = (l.set k ⟨y.c, m⟩).flatMap encPrt := by
    rw [← setAll_elem encPrt_len l k ⟨y.c, m⟩ hlt]
    show _ = ((l.flatMap encPrt).set (k * 2) (.int .i64 y.c)).set (k * 2 + 1) (.int .i64 m)
    have h0 : (l.flatMap encPrt)[k * 2]? = some (.int .i64 y.c) := flatMap_at encPrt_len l k y 0 _ hk rfl
    rw [set_self h0]
  rw [e1] at h1
  unfold Own
  rw [List.length_set]
  exact h1
theorem Own.put2c {w : World} {B : Nat} {T : TypeId} {g n cap k : Nat} {l : List Prt} {y : Prt} (h : Own w B T 2 encPrt (.slice (some ⟨g, 0, none⟩) n cap) l) (hk : l[k]? = some y) (d : Int) :
    Own (w.setCell ⟨g, k * 2, none⟩ (.int .i64 d)) B T 2 encPrt (.slice (some ⟨g, 0, none⟩) n cap) (l.set k ⟨d, y.m⟩) := by
  obtain ⟨A', c', e, _⟩ := h.form
  have hn : n = l.length := by injection e
  subst hn
  have hlt := (List.getElem?_eq_some_iff.1 hk).1
  obtain ⟨h1, _⟩ := World.ownsRow.stored h (k * 2) (.int .i64 d)
  have e1 : (l.flatMap encPrt).set (k * 2) (.int .i64 d) = (l.set k ⟨d, y.m⟩).flatMap encPrt := by
    rw [← setAll_elem encPrt_len l k ⟨d, y.m⟩ hlt]
    show _ = ((l.flatMap encPrt).set (k * 2) (.int .i64 d)).set (k * 2 + 1) (.int .i64 y.m)
    rw [set_self (i := k * 2 + 1)]
    rw [List.getElem?_set_ne (by omega)]
    exact flatMap_at encPrt_len l k y 1 _ hk rfl
  rw [e1] at h1
  unfold Own
  rw [List.length_set]
  exact h1
set_option maxRecDepth 100000 in
set_option maxHeartbeats 2000000 in
theorem drawReplayInputs_any (A : Option Addr) (n c : Nat) (l : List Int) (w : World) (h : Sl w 1 encU8 A n l) (hl : ∀ x ∈ l, 0 ≤ x ∧ x < 256) (hn : n ≤ 9223372036854775807) (hnc : n ≤ c) (hc : c ≤ 9223372036854775807) :
    Calls Try.prog 49 #[.slice A n c] w (RetPts w) := by
  obtain ⟨i0, hi, hz0, hz1, hz2⟩ := info_parts Try.infoPart
  go_enter Try.func49, Try.ntmps49
  go_wp2_with fail
  refine (l6Open_n A n c l _ h hl hn hnc hc).mono ?_
  rintro e w1 ⟨R, rfl, hRw, hR1, hb1⟩
  have hRl := hR1.lt
  go_wp2_with fail
  refine (l91Level_any R 0 _ hR1 (by omega)).mono ?_
  rintro e w2 ⟨lv, A2, c2, A3, c3, rfl, hLD, hW2, hG2, hR2, hg2⟩
  have hs2 := hg2.size
  go_wp2_with fail
  refine (l92Run_any lv A2 A3 c2 c3 R (0 + 40) _ hR2 (by omega) hLD (hW2.sl' encBx_len) (hG2.sl' encBx_len) (fun a e => ?_) (fun a e => ?_)).mono ?_
  · subst e
    have := hW2.lt a.block rfl
    omega
  · subst e
    have := hG2.lt a.block rfl
    omega
  rintro e w3 ⟨ins, A4, c4, rfl, hP, hO3, hR3, hg3⟩
  have hd2 := hb1.grown hg2 hb1.size (fun k e => by cases e; exact hRw)
  have hd3 := hd2.grown hg3 hd2.size (fun k e => by cases e; exact hRw)
  have hs1 := hd2.size
  have hil : ins.length ≤ 60 := (legal_len hP hLD.t1 hLD.t0).1
  have hRl3 := hR3.lt
  clear hb1 hR1 hW2 hG2 hR2 hg2 hg3 hd2 hP h hl
  go_wp2_with fail
  refine (specReplayParts_any _ _ ins _ (hO3.sl' encInp_len) (by omega)).mono ?_
  have hL := partsL_len60 ins
  generalize partsL ins = ps at *
  rintro e w4 ⟨A5, c5, rfl, hc5, hO4, hb4⟩
  have hd4 := below_after hd3 hb4
  have hR4 := hR3.later hb4
  have hs4 := hd3.size
  have hO4 := hO4.mono (B' := R + 1) (by omega)
  have hRl4 := hR4.lt
  clear hd3 hb4 hR3 hO3
  by_cases h0 : ps.length = 0
  · have hne2 : (ps.length : Int) = 0 := by omega
    have hne : ((ps.length : Int) == 0) = true := by rw [beq_iff_eq]; omega
    go_wp2_with fail
    refine (pick_n R (0 + 40 + 200) 12 _ hR4 (by omega) (by omega) (by omega)).mono ?_
    rintro e w5 ⟨p1, rfl, p1_0, p1_1, hR5, hg5⟩
    have hd5 := hd4.grown hg5 hd4.size (fun k e => by cases e; exact hRw)
    clear hg5 hR4 hO4
    go_wp2_with fail
    refine (pick_n R (0 + 40 + 200 + 1) 63 _ hR5 (by omega) (by omega) (by omega)).mono ?_
    rintro e w6 ⟨p2, rfl, p2_0, p2_1, hR6, hg6⟩
    have hd6 := hd5.grown hg6 hd5.size (fun k e => by cases e; exact hRw)
    clear hg6 hR5
    have hs6 := hd6.size
    go_wp2
    exact bodyPost_ret (v := .slice (some ⟨w6.heap.size, 0, none⟩) 1 1) (by simp [results, Try.results49, go_sem]) rfl ⟨[⟨p1 - 1, p2 - 1⟩], some ⟨w6.heap.size, 0, none⟩, 1, rfl, by simp, World.ownsRow_lit (base := w.heap.size) (size := 2) w6 #[.int .i64 (p1 - 1), .int .i64 (p2 - 1)] 1 hs6 (by decide) rfl, below_alloc hd6 _⟩
  · have hne2 : ¬ (ps.length : Int) = 0 := by omega
    have hne : ((ps.length : Int) == 0) = false := by simpa using hne2
    go_wp2_with fail
    refine (pick_n R (0 + 40 + 200) (ps.length : Int) _ hR4 (by omega) (by omega) (by omega)).mono ?_
    rintro e w5 ⟨kz, rfl, k0, k1, hR5, hg5⟩
    have hd5 := hd4.grown hg5 hd4.size (fun k e => by cases e; exact hRw)
    have hO5 := hO4.gk hg5 (by omega)
    have hRl5 := hR5.lt
    obtain ⟨k, rfl⟩ := Int.eq_ofNat_of_zero_le k0
    clear hg5 hR4 hO4 hd4
    go_wp2_with fail
    refine (pick_n R (0 + 40 + 200 + 1) 10 _ hR5 (by omega) (by omega) (by omega)).mono ?_
    rintro e w6 ⟨p2, rfl, p2_0, p2_1, hR6, hg6⟩
    have hd6 := hd5.grown hg6 hd5.size (fun k e => by cases e; exact hRw)
    have hO6 := hO5.gk hg6 (by omega)
    have hRl6 := hR6.lt
    clear hg6 hR5 hO5 hd5
    have hk : k < ps.length := by omega
    obtain ⟨g, rfl⟩ : ∃ g, A5 = some ⟨g, 0, none⟩ := by
      rcases hO6.2 with ⟨e1, e2⟩ | ⟨g, cap, cur, e1, _⟩
      · omega
      · injection e1 with e1; exact ⟨g, e1⟩
    have hgB := hO6.lt g rfl
    obtain ⟨y, hy⟩ : ∃ y, ps[k]? = some y := ⟨_, List.getElem?_eq_getElem hk⟩
    have HY := Lib.hid hy
    clear hy
    have hnb : ps.length ≤ 60 := hL
    obtain ⟨⟨z0, q0⟩, f0⟩ := own_slot hO6 hk 0 (by omega)
    obtain ⟨⟨z1, q1⟩, f1⟩ := own_slot hO6 hk 1 (by omega)
    simp only [Nat.add_zero] at q0 f0
    have hs6 := hd6.size
    by_cases c0 : p2 = 0
    · subst c0
      go_wp2_with fail
      refine (pick_n R (0 + 40 + 200 + 1 + 1) 4 _ (by (repeat (first | (with_reducible assumption) | (with_reducible refine RdL.alloc ?_ _) | (with_reducible refine RdL.drew ?_) | (with_reducible refine RdL.drewN ?_ _) | (with_reducible refine RdL.far ?_ (by first | omega | (simp; done) | (simp; omega)) _) | (with_reducible refine RdL.later ?_ (by assumption))))) (by omega) (by omega) (by omega)).mono ?_
      rintro e w7 ⟨qz, rfl, q0z, q1z, hR7, hg7⟩
      obtain ⟨q, rfl⟩ := Int.eq_ofNat_of_zero_le q0z
      have V7 : Bk w7 w6.heap.size 3 #[.int .i64 0, .int .i64 60, .int .i64 61, .int .i64 (-1)] := (Bk.new w6 _ _ rfl).grown hg7 (by intro e; injection e with e; omega)
      have hO7 := (hO6.alloc (.cells #[.int .i64 0, .int .i64 60, .int .i64 61, .int .i64 (-1)] 3)).gk hg7 (by omega)
      have hd7 := (below_alloc hd6 (.cells #[.int .i64 0, .int .i64 60, .int .i64 61, .int .i64 (-1)] 3)).grown hg7 (by simp; omega) (fun k e => by cases e; exact hRw)
      have hq4 : q < 4 := by omega
      obtain ⟨mv, hmv⟩ : ∃ mv : Int, w7.cell? ⟨w6.heap.size, q, none⟩ = some (.int .i64 mv) := by
        rw [V7.cell]
        rcases q with _ | _ | _ | _ | q
        · exact ⟨0, rfl⟩
        · exact ⟨60, rfl⟩
        · exact ⟨61, rfl⟩
        · exact ⟨-1, rfl⟩
        · omega
      obtain ⟨⟨y0, r0⟩, g0⟩ := own_slot hO7 hk 0 (by omega)
      obtain ⟨⟨y1, r1⟩, g1⟩ := own_slot hO7 hk 1 (by omega)
      have hV7 := V7.lt
      have hgB7 := hO7.lt g rfl
      have hP := hO7.put2m HY.out mv
      have hlen : (ps.set k ⟨y.c, mv⟩).length = ps.length := List.length_set ..
      clear hg7 q0 q1 f0 f1 hO6 hd6 hR6 V7 hO7
      go_wp2
      refine bodyPost_ret (v := .slice (some ⟨g, 0, none⟩) ps.length c5) (by simp [results, Try.results49, go_sem]) rfl ⟨ps.set k ⟨y.c, mv⟩, some ⟨g, 0, none⟩, c5, by rw [hlen], by rw [hlen]; omega, ?_, by (repeat (first | (with_reducible exact Below.refl _ _) | (with_reducible refine below_alloc ?_ _) | (with_reducible refine below_setCell ?_ ?_ _; (simp <;> omega)) | (with_reducible refine below_drew ?_) | (with_reducible refine below_drewN ?_ _) | (with_reducible refine below_after ?_ (by assumption))))⟩
      rw [hlen]
      exact hP.mono (by omega)
    · have cb0 : (p2 == 0) = false := by simpa using c0
      by_cases c1 : p2 = 1
      · subst c1
        go_wp2_with fail
        refine (pick_n R (0 + 40 + 200 + 1 + 1) 12 _ (by (repeat (first | (with_reducible assumption) | (with_reducible refine RdL.alloc ?_ _) | (with_reducible refine RdL.drew ?_) | (with_reducible refine RdL.drewN ?_ _) | (with_reducible refine RdL.far ?_ (by first | omega | (simp; done) | (simp; omega)) _) | (with_reducible refine RdL.later ?_ (by assumption))))) (by omega) (by omega) (by omega)).mono ?_
        rintro e w7 ⟨qz, rfl, q0z, q1z, hR7, hg7⟩
        have hO7 := hO6.gk hg7 (by omega)
        have hd7 := hd6.grown hg7 hd6.size (fun k e => by cases e; exact hRw)
        obtain ⟨⟨y0, r0⟩, g0⟩ := own_slot hO7 hk 0 (by omega)
        simp only [Nat.add_zero] at r0 g0
        have hgB7 := hO7.lt g rfl
        have hP := hO7.put2c HY.out (qz - 1)
        have hlen : (ps.set k ⟨qz - 1, y.m⟩).length = ps.length := List.length_set ..
        clear hg7 q0 q1 f0 f1 hO6 hd6 hR6 hO7
        go_wp2
        refine bodyPost_ret (v := .slice (some ⟨g, 0, none⟩) ps.length c5) (by simp [results, Try.results49, go_sem]) rfl ⟨ps.set k ⟨qz - 1, y.m⟩, some ⟨g, 0, none⟩, c5, by rw [hlen], by rw [hlen]; omega, ?_, by (repeat (first | (with_reducible exact Below.refl _ _) | (with_reducible refine below_alloc ?_ _) | (with_reducible refine below_setCell ?_ ?_ _; (simp <;> omega)) | (with_reducible refine below_drew ?_) | (with_reducible refine below_drewN ?_ _) | (with_reducible refine below_after ?_ (by assumption))))⟩
        rw [hlen]
        exact hP.mono (by omega)
      · have cb1 : (p2 == 1) = false := by simpa using c1
        by_cases c2 : p2 = 2
        · subst c2
          obtain ⟨b2, off2, z, hA2, hbl2, hz, hcz⟩ := (hO6.sl' encPrt_len).at_ (k := ps.length - 1) (by omega)
          simp only [Option.some.injEq, Addr.mk.injEq, and_true] at hA2
          obtain ⟨rfl, rfl⟩ := hA2
          obtain ⟨t0, t1⟩ := prt_at hcz
          simp only [Nat.zero_add] at t0 t1
          have e3 : IntKind.i64.wrap ((ps.length : Int) - 1) = (ps.length : Int) - 1 := IntWalk.i64_in _ (by omega)
          have e4 : ((ps.length : Int) - 1).toNat = ps.length - 1 := by omega
          have e5 : (0 : Int) ≤ (ps.length : Int) - 1 := by omega
          have e6 : (ps.length : Int) - 1 < (ps.length : Int) := by omega
          have hlto := fun g2 e => (hO6.lt g2 e).1
          clear hcz hz q0 q1 f0 f1 hR6
          go_wp2_with (at_builtin; refine wp_appS rfl _ _ _ rfl (R + 1) 63 i0 (.agg #[.int .i64 0, .int .i64 0]) 2 16 Try.underlying43 hi hz0 hz1 hz2 rfl (by decide) encPrt_len one_prt _ ps [z] rfl (hO6.alloc _) _ 1 1 rfl (Sl.one _ _ _ _ rfl) (by intro e; cases e) (by unfold maxLen; omega) (by omega) (by simp; omega) ?_; intro v9 w9 O9 hg9; obtain ⟨A9, c9, rfl, hc9, _⟩ := O9.form)
          refine bodyPost_ret (v := .slice A9 (ps ++ [z]).length c9) (by simp [results, Try.results49, go_sem]) rfl ⟨ps ++ [z], A9, c9, rfl, by simp; omega, O9.mono (by omega), ?_⟩
          exact (below_alloc hd6 _).grown hg9 (by simp; omega) (fun g2 e => by have := hlto g2 e; omega)
        · have cb2 : (p2 == 2) = false := by simpa using c2
          go_wp2
          exact bodyPost_ret (v := .slice (some ⟨g, 0, none⟩) ps.length c5) (by simp [results, Try.results49, go_sem]) rfl ⟨ps, some ⟨g, 0, none⟩, c5, rfl, by omega, hO6.mono (by omega), hd6⟩
end Go.Proofs.Ytkendoffknjpiaa
