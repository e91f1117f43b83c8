/- The law FnPartsSplit: its walk. Printed by gen/lawsE.py. -/
import Derived.Test.YtkendoffknjpiaaDrE
import Derived.Test.YtkendoffknjpiaaLawParts
import Derived.Deep.RegionHeld3
namespace Go.Proofs.Ytkendoffknjpiaa
open Go.ChangeShapes Go.WideShapes Go.ChangeAt Go.RowKit
theorem inputsOf_le (ps : List Prt) : (inputsOf ps).length ≤ 60 := by
  unfold inputsOf
  cases h : goodParts ps with
  | false => simp
  | true =>
    simp only [if_true]
    exact outTo_len (goodParts_iff.1 h) (Nat.le_refl _)
theorem Sl.take {α : Type} {w : World} {sz : Nat} {enc : α → List Value} {A : Option Addr} {n m : Nat} {l : List α} (h : Sl w sz enc A n l) (hm : m ≤ n) : Sl w sz enc A m (l.take m) :=
  ⟨by rw [List.length_take, h.len]; omega, fun hp => by
    obtain ⟨b, off, e, hlt, hc⟩ := h.2 (by omega)
    exact ⟨b, off, e, hlt, fun k x hk => hc k x (by rw [List.getElem?_take] at hk; split at hk; exact hk; cases hk)⟩⟩
theorem own_nil_prt (w : World) (B N : Nat) (T : TypeId) (hB : B ≤ w.heap.size) (hN : w.heap.size = N) : Own (w.alloc (.cells #[] T)) B T 2 encPrt (.slice (some ⟨N, 0, none⟩) 0 0) [] := by
  subst hN
  exact World.ownsRow_lit (base := B) (size := 2) w #[] 0 hB (by decide) rfl
theorem keepQ {w w' : World} {b o : Nat} {u : Value} (h0 : w.cell? ⟨b, o, none⟩ = some u) (hb : b < w.heap.size) (h : Below w.heap.size w w') : w'.cell? ⟨b, o, none⟩ = some u := (h.cell (p := ⟨b, o, none⟩) hb).trans h0
set_option maxRecDepth 100000 in
set_option maxHeartbeats 2000000 in
theorem lawPartsSplit (A B : Option Addr) (n n' c c' : Nat) (l : List Int) (w : World) (h : Sl w 1 encU8 A n l) (hl : ∀ x ∈ l, 0 ≤ x ∧ x < 256) (hn : n ≤ 9223372036854775807) (hnc : n ≤ c) (hc : c ≤ 9223372036854775807) (hn' : n' ≤ 9223372036854775807) :
    Calls Try.prog 11 #[.slice A n c, .slice B n' c'] w fun e w' => e = .returned (.bool true) ∧ Below w.heap.size w w' := by
  by_cases h1 : 1048576 < (n : Int)
  · go_enter Try.func11, Try.ntmps11
    go_wp2
    go_ret
    exact ⟨rfl, Below.refl _ _⟩
  by_cases h2 : 1048576 < (n' : Int)
  · go_enter Try.func11, Try.ntmps11
    go_wp2
    go_ret
    exact ⟨rfl, Below.refl _ _⟩
  · go_enter Try.func11, Try.ntmps11
    go_wp2_with fail
    refine (drawReplayInputs_any A n c l _ h hl hn hnc hc).mono ?_
    rintro e w1 ⟨ps, A1, c1, rfl, hpl, ho1, hd1⟩
    have hL := inputsOf_le ps
    clear h hl
    go_wp2_with fail
    refine (implReplayInputs_any _ _ ps _ (ho1.sl' encPrt_len) (by omega)).mono ?_
    rintro e w2 ⟨AG, cG, rfl, hcG, hG2, hb2⟩
    have hd2 := below_after hd1 hb2
    have ho2 := ho1.later hb2
    clear hd1 hb2 ho1
    go_wp2_with fail
    refine (specReplayInputs_any _ _ ps _ (ho2.sl' encPrt_len) (by omega)).mono ?_
    rintro e w3 ⟨AS, cS, rfl, hcS, hS3, hb3⟩
    have hd3 := below_after hd2 hb3
    have ho3 := ho2.later hb3
    have hG3 := hG2.later hb3
    clear hd2 hb3 ho2 hG2
    go_wp2_with fail
    refine (sameInputs_same _ _ _ _ _ _ _ _ (hG3.sl' encInp_len) (hS3.sl' encInp_len) (by omega) (by omega)).mono ?_
    rintro e w4 ⟨rfl, hb4⟩
    have hd4 := below_after hd3 hb4
    have ho4 := ho3.later hb4
    have hG4 := hG3.later hb4
    have hS4 := hS3.later hb4
    clear hd3 hb4 ho3 hG3 hS3
    cases hgo : goodParts ps
    · go_wp2_with fail
      refine (sameInputs_same _ _ _ _ _ _ _ _ (hG4.sl' encInp_len) (hS4.sl' encInp_len) (by omega) (by omega)).mono ?_
      rintro e w5 ⟨rfl, hb5⟩
      have hd5 := below_after hd4 hb5
      go_wp2
      go_ret
      exact ⟨rfl, hd5⟩
    · obtain ⟨hpi, hio, hil⟩ := partsL_inputs hgo
      have HGO := Lib.hid hgo
      have HPI := Lib.hid hpi
      have HIO := Lib.hid hio
      have hil2 : ((inputsOf ps).length : Int) ≤ 60 := by omega
      clear hpi hio
      by_cases h0 : ps.length = 0
      · have hne2 : (ps.length : Int) = 0 := by omega
        have hne : ((ps.length : Int) == 0) = true := by rw [beq_iff_eq]; omega
        go_wp2_with fail
        refine (sameInputs_same _ _ _ _ _ _ _ _ (hG4.sl' encInp_len) (hS4.sl' encInp_len) (by omega) (by omega)).mono ?_
        rintro e w5 ⟨rfl, hb5⟩
        have hd5 := below_after hd4 hb5
        go_wp2
        go_ret
        exact ⟨rfl, hd5⟩
      · have hne2 : ¬ (ps.length : Int) = 0 := by omega
        have hne : ((ps.length : Int) == 0) = false := by simpa using hne2
        obtain ⟨k, hk, hk1⟩ : ∃ k : Nat, (n' : Int) % (ps.length : Int) = (k : Int) ∧ k < ps.length := ⟨n' % ps.length, by simp, Nat.mod_lt _ (by omega)⟩
        obtain ⟨b, off, x, rfl, hbl, hx, hcx⟩ := (ho4.sl' encPrt_len).at_ hk1
        obtain ⟨q0, q1⟩ := prt_at hcx
        have hbad : Hid (goodParts (ps.take (k + 1) ++ [⟨x.c, 1⟩] ++ ps.drop (k + 1)) = false) := Lib.hid (split_bad hx)
        clear hcx hx hG4 hS4 hL hil hil2
        obtain ⟨i0, hi, hz0, hz1, hz2⟩ := info_parts Try.infoPart
        have hsz4 := hd4.size
        have HO4 := Lib.hid ho4
        have k1 : (0 : Int) ≤ (k : Int) := by omega
        have k2 : (k : Int) < (ps.length : Int) := by omega
        have k3 : IntKind.i64.wrap ((k : Int) + 1) = (k : Int) + 1 := IntWalk.i64_in _ (by omega)
        have hc1 : (k : Int) + 1 ≤ (c1 : Int) := by obtain ⟨A', c', e, hle, _⟩ := ho4.form; injection e with _ _ e3; omega
        have k4 : (0 : Int) ≤ (k : Int) + 1 := by omega
        have k5 : k + 1 ≤ c1 := by omega
        have k6 : ((k : Int) + 1).toNat = k + 1 := by omega
        obtain ⟨ad, hAd, hSd⟩ : ∃ ad, (if c1 = k + 1 then some (⟨b, off, none⟩ : Addr) else some ⟨b, off + (k + 1) * 2, none⟩) = some ad ∧ Sl w4 2 encPrt (some ad) (ps.length - (k + 1)) (ps.drop (k + 1)) := by
          by_cases hcap : c1 = k + 1
          · refine ⟨_, by rw [if_pos hcap], by rw [List.length_drop], fun hp => ?_⟩
            obtain ⟨A', c', e, hle, _⟩ := ho4.form
            injection e with _ _ e3
            omega
          · refine ⟨_, by rw [if_neg hcap], by rw [List.length_drop], fun hp => ⟨b, off + (k + 1) * 2, rfl, hbl, fun j y hj i v hv => ?_⟩⟩
            obtain ⟨b', off', e, hlt', hcc⟩ := (ho4.sl' encPrt_len).2 (by omega)
            cases e
            rw [List.getElem?_drop] at hj
            have := hcc _ y hj i v hv
            rw [show off + (k + 1) * 2 + j * 2 + i = off + (k + 1 + j) * 2 + i by omega]
            exact this
        obtain ⟨L, hL⟩ : ∃ L, ps.take (k + 1) ++ [⟨x.c, 1⟩] ++ ps.drop (k + 1) = L := ⟨_, rfl⟩
        have hLn : L.length ≤ 62 := by rw [← hL, List.length_append, List.length_append, List.length_take, List.length_drop]; simp; omega
        have HL := Lib.hid hL
        rw [hL] at hbad
        clear hL
        go_wp2
        rw [hk]
        have hsl := (HO4.out.sl' encPrt_len).take (m := k + 1) hk1
        have hlt : (ps.take (k + 1)).length = k + 1 := by rw [List.length_take]; omega
        go_region_held3 (fun w' => w'.cell? ⟨b, off + k * 2, none⟩ = some (.int .i64 x.c))
          (first | (with_reducible exact keepQ q0 hbl (by (repeat (first | (with_reducible exact Below.refl _ _) | (with_reducible refine below_alloc ?_ _) | (with_reducible refine below_setCell ?_ ?_ _; (simp <;> omega)) | (with_reducible refine below_drew ?_) | (with_reducible refine below_drewN ?_ _) | (with_reducible refine below_after ?_ (by assumption)))))) | (with_reducible exact keepQ q0 hbl hd8) | (with_reducible exact keepQ q0 hbl (below_alloc hd8 _)) | (with_reducible exact keepQ q0 hbl hd9))
          (first
          | (refine step_appL rfl (.tmp 65) (.tmp 69) _ rfl w4.heap.size 63 i0 (.agg #[.int .i64 0, .int .i64 0]) 2 16 Try.underlying43 hi hz0 hz1 hz2 rfl (by decide) encPrt_len one_prt _ [] (ps.take (k + 1)) (by first | (simp [Act.eval]; done) | (simp [Act.eval]; rfl)) (by first | exact (own_nil_prt _ _ _ _ (by first | omega | (simp; done) | (simp; omega)) (by first | omega | (simp; done) | (simp; omega))).drew | exact ((own_nil_prt _ _ _ _ (by first | omega | (simp; done) | (simp; omega)) (by first | omega | (simp; done) | (simp; omega))).alloc _).drew) (some ⟨b, off, none⟩) (k + 1) c1 (by first | (simp [Act.eval]; done) | (simp [Act.eval]; rfl)) (by first | exact (hsl.below (below_alloc (Below.refl _ _) _)).drew | exact ((hsl.below (below_alloc (Below.refl _ _) _)).below (below_alloc (Below.refl _ _) _)).drew) (by intro e; cases e) (by have e0 : ([] : List Prt).length = 0 := rfl; unfold maxLen; omega) (by have e0 : ([] : List Prt).length = 0 := rfl; omega) (by first | omega | (simp; done) | (simp; omega)) ?_; intro v8 w8 O8 hg8 hl8; rw [List.nil_append] at O8; obtain ⟨A8, c8, hv8, hc8, _⟩ := O8.form; rw [hlt] at hv8; subst hv8; have hd8 : Below w4.heap.size w4 w8 := (by first | exact (below_drew (below_alloc (Below.refl _ _) _)).grown hg8 (by simp) (fun g e => by injection e with e; first | omega | (simp at e; omega)) | exact (below_drew (below_alloc (below_alloc (Below.refl _ _) _) _)).grown hg8 (by simp; omega) (fun g e => by injection e with e; first | omega | (simp at e; omega))))
          | (refine step_appL rfl (.tmp 70) (.tmp 77) _ rfl w4.heap.size 63 i0 (.agg #[.int .i64 0, .int .i64 0]) 2 16 Try.underlying43 hi hz0 hz1 hz2 rfl (by decide) encPrt_len one_prt _ (ps.take (k + 1)) [⟨x.c, 1⟩] (by first | (simp [Act.eval]; done) | (simp [Act.eval]; rfl)) (by first | exact O8 | exact O8.alloc _) _ 1 1 (by first | (simp [Act.eval]; done) | (simp [Act.eval]; rfl)) (by first | exact Sl.one_at _ _ _ _ (by rfl) (by first | rfl | omega | (simp; done) | (simp; omega)) | (refine Sl.grown (Sl.drew (by exact Sl.one_at _ _ _ _ (by rfl) (by first | rfl | omega | (simp; done) | (simp; omega)))) hg8 ?_; (intro a e e2; cases e; exact absurd (Option.some.inj e2) (by first | (simp; done) | (simp; omega) | omega))) | (refine Sl.grown (Sl.drew (Sl.below (by exact Sl.one_at _ _ _ _ (by rfl) (by first | rfl | omega | (simp; done) | (simp; omega))) (below_alloc (Below.refl _ _) _))) hg8 ?_; (intro a e e2; cases e; exact absurd (Option.some.inj e2) (by first | (simp; done) | (simp; omega) | omega)))) (by intro e; cases e) (by rw [hlt]; unfold maxLen; omega) (by rw [hlt]; omega) (by have := hd8.size; first | omega | (simp; done) | (simp; omega)) ?_; intro v9 w9 O9 hg9 hl9; obtain ⟨A9, c9, hv9, hc9, _⟩ := O9.form; rw [List.length_append, hlt, List.length_singleton] at hv9; subst hv9; have hd9 : Below w4.heap.size w4 w9 := (by first | exact hd8.grown hg9 hd8.size (fun g e => (O8.lt g e).1) | exact (below_alloc hd8 _).grown hg9 (by have := hd8.size; simp; omega) (fun g e => (O8.lt g e).1))))
        all_goals
          have hz9 := hd9.size
          have hlt2 : (ps.take (k + 1) ++ [(⟨x.c, 1⟩ : Prt)]).length = k + 2 := by rw [List.length_append, hlt]; rfl
          have HLT2 := Lib.hid hlt2
          have hlo9 := fun g e => (O9.lt g e).1
          clear O8 hg8 hg9 hl8 hl9 hlt hlt2 hsl
          go_wp2_with (first
            | (at_builtin; refine wp_appS rfl _ _ _ rfl w4.heap.size 63 i0 (.agg #[.int .i64 0, .int .i64 0]) 2 16 Try.underlying43 hi hz0 hz1 hz2 rfl (by decide) encPrt_len one_prt _ (ps.take (k + 1) ++ [(⟨x.c, 1⟩ : Prt)]) (ps.drop (k + 1)) rfl O9 _ _ _ rfl (hSd.below hd9) (by intro e; cases e) (by rw [HLT2.out]; unfold maxLen; omega) (by rw [HLT2.out]; omega) hz9 ?_; intro v10 w10 O10 hg10; rw [HL.out] at O10; obtain ⟨A10, c10, rfl, hc10, _⟩ := O10.form; have hd10 := hd9.grown hg10 hz9 hlo9)
            | (go_at_call 29; refine (implReplayInputs_any _ _ L _ (O10.sl' encPrt_len) (by omega)).mono ?_; rw [hbad.out]; rintro e w11 ⟨A11, c11, rfl, hc11, hP11, hb11⟩))
          go_ret
          exact ⟨rfl, by (repeat (first | (with_reducible exact Below.refl _ _) | (with_reducible refine below_alloc ?_ _) | (with_reducible refine below_setCell ?_ ?_ _; (simp <;> omega)) | (with_reducible refine below_drew ?_) | (with_reducible refine below_drewN ?_ _) | (with_reducible refine below_after ?_ (by assumption))))⟩
end Go.Proofs.Ytkendoffknjpiaa
