/- ReplayInputs: the program's by its contract. Printed by gen/rinpi.py. -/
import Derived.Test.YtkendoffknjpiaaRept
namespace Go.Proofs.Ytkendoffknjpiaa
open Go.ChangeShapes Go.WideShapes Go.ChangeAt Go.RowKit
theorem Sl.inp1 (w : World) (T : TypeId) (x : Inp) {g : Nat} (hg : w.heap.size = g) : Sl (w.alloc (.cells #[.int .i64 x.s, .int .i64 x.p, .bool x.z] T)) 3 encInp (some ⟨g, 0, none⟩) 1 [x] := hg ▸ Sl.one w x T _ rfl
set_option maxRecDepth 100000 in
set_option maxHeartbeats 2000000 in
theorem implReplayInputs_any (A : Option Addr) (c : Nat) (ps : List Prt) (w : World) (h : Sl w 2 encPrt A ps.length ps) (hn : ps.length ≤ 9000000000000000000) :
    Calls Try.prog 29 #[.slice A ps.length c] w (RetOwnB 60 3 encInp (inputsOf ps) (goodParts ps) w) := by
  obtain ⟨i0, hi, hz0, hz1, hz2⟩ := info_parts Try.infoInp
  go_enter Try.func29, Try.ntmps29
  go_wp2
  go_loopw [4, 11] (fun v i wr => ∃ k : Nat, k ≤ ps.length ∧ i = .int .i64 k ∧ (∀ j, j < k → badP ps j = false) ∧ Own wr w.heap.size 60 3 encInp v (outTo ps k) ∧ Below w.heap.size w wr) (fun _ i _ => ps.length - (intOf i).toNat)
  case atStart => exact ⟨0, Nat.zero_le _, rfl, fun j hj => by omega, Own.none_, by (repeat (first | (with_reducible exact Below.refl _ _) | (with_reducible refine below_alloc ?_ _) | (with_reducible refine below_setCell ?_ ?_ _; (simp <;> omega)) | (with_reducible refine below_drew ?_) | (with_reducible refine below_drewN ?_ _) | (with_reducible refine below_after ?_ (by assumption))))⟩
  case round =>
    obtain ⟨k, hk, rfl, hgood, ho, hb⟩ := hrel
    have hol := outTo_len hgood hk
    have hof := ho
    obtain ⟨Av, cv, rfl, hcv, _⟩ := ho.form
    by_cases hlt : k < ps.length
    · obtain ⟨b, off, x, rfl, hbw, hx, hcw⟩ := h.at_ hlt
      obtain ⟨w0q, w1q⟩ := prt_at hcw
      have q0 : wr.cell? ⟨b, off + k * 2, none⟩ = some (.int .i64 x.c) := (hb.cell (p := ⟨b, off + k * 2, none⟩) hbw).trans w0q
      have q1 : wr.cell? ⟨b, off + k * 2 + 1, none⟩ = some (.int .i64 x.m) := (hb.cell (p := ⟨b, off + k * 2 + 1, none⟩) hbw).trans w1q
      have hbl : b < wr.heap.size := Nat.lt_of_lt_of_le hbw hb.size
      have HB := Lib.hid (badP_eq hx)
      have HO := Lib.hid (outTo_succ hx)
      have HG := Lib.hid hgood
      have Hx := Lib.hid hx
      clear hgood hcw hx
      obtain ⟨xc, xm⟩ := x
      simp only at q0 q1 w0q w1q HB HO
      have e1 : IntKind.i64.wrap (60 - ((outTo ps k).length : Int)) = 60 - ((outTo ps k).length : Int) := IntWalk.i64_in _ (by omega)
      cases hco : codeOk xc
      · have hz : True := trivial
        have hbad : Hid (goodParts ps = false) := Lib.hid (goodParts_no hlt (by rw [HB.out, hco]; rfl))
        have hin : Hid (inputsOf ps = []) := Lib.hid (by unfold inputsOf; rw [hbad.out]; rfl)
        rw [hbad.out, hin.out]
        go_wp2_with fail
        refine (implInputOf_any xc _).mono ?_
        rintro e w1 ⟨rfl, hb1⟩
        have hP1 : Bk w1 wr.heap.size 63 #[.int .i64 xc, .int .i64 xm] := by (repeat (first | (with_reducible assumption) | (with_reducible exact Bk.new _ _ _ (by simp)) | (with_reducible refine Bk.alloc ?_ _) | (with_reducible refine Bk.drew ?_) | (with_reducible refine Bk.drewN ?_ _) | (with_reducible apply Bk.set') | (with_reducible refine Bk.far ?_ (by first | omega | (simp; done) | (simp; omega)) _) | (with_reducible refine Bk.later ?_ (by assumption)) | (with_reducible refine Bk.grown ?_ (by assumption) (by first | omega | (simp; done) | (simp; omega))) | (exact SetTo.mk (by with_reducible rfl)) | (exact SetTo.mk (by simp))))
        have hd1 : Below w.heap.size w w1 := by (repeat (first | (with_reducible exact Below.refl _ _) | (with_reducible refine below_alloc ?_ _) | (with_reducible refine below_setCell ?_ ?_ _; (simp <;> omega)) | (with_reducible refine below_drew ?_) | (with_reducible refine below_drewN ?_ _) | (with_reducible refine below_after ?_ (by assumption))))
        have ho1 := (hof.alloc (.cells #[.int .i64 xc, .int .i64 xm] 63)).later hb1
        have zP := hP1.lt
        obtain ⟨⟨p0, p1⟩, pf⟩ := hP1.c2
        have hbl1 : b < w1.heap.size := by omega
        clear hb1 q0 q1
        go_wp2
        go_quiet (fail)
        go_wp2
        have hsz := hd1.size
        exact bodyPost_ret (v := .tuple #[.slice none 0 0, .bool false]) (by simp [results, Try.results29, go_sem]) rfl ⟨none, 0, rfl, Nat.le_refl _, Own.none_, by (repeat (first | (with_reducible exact Below.refl _ _) | (with_reducible refine below_alloc ?_ _) | (with_reducible refine below_setCell ?_ ?_ _; (simp <;> omega)) | (with_reducible refine below_drew ?_) | (with_reducible refine below_drewN ?_ _) | (with_reducible refine below_after ?_ (by assumption))))⟩
      · cases hrg : inR 1 (60 - (outTo ps k).length) xm
        · have hz : True := trivial
          have hbad : Hid (goodParts ps = false) := Lib.hid (goodParts_no hlt (by rw [HB.out, hco, hrg]; rfl))
          have hin : Hid (inputsOf ps = []) := Lib.hid (by unfold inputsOf; rw [hbad.out]; rfl)
          rw [hbad.out, hin.out]
          go_wp2_with fail
          refine (implInputOf_any xc _).mono ?_
          rintro e w1 ⟨rfl, hb1⟩
          have hP1 : Bk w1 wr.heap.size 63 #[.int .i64 xc, .int .i64 xm] := by (repeat (first | (with_reducible assumption) | (with_reducible exact Bk.new _ _ _ (by simp)) | (with_reducible refine Bk.alloc ?_ _) | (with_reducible refine Bk.drew ?_) | (with_reducible refine Bk.drewN ?_ _) | (with_reducible apply Bk.set') | (with_reducible refine Bk.far ?_ (by first | omega | (simp; done) | (simp; omega)) _) | (with_reducible refine Bk.later ?_ (by assumption)) | (with_reducible refine Bk.grown ?_ (by assumption) (by first | omega | (simp; done) | (simp; omega))) | (exact SetTo.mk (by with_reducible rfl)) | (exact SetTo.mk (by simp))))
          have hd1 : Below w.heap.size w w1 := by (repeat (first | (with_reducible exact Below.refl _ _) | (with_reducible refine below_alloc ?_ _) | (with_reducible refine below_setCell ?_ ?_ _; (simp <;> omega)) | (with_reducible refine below_drew ?_) | (with_reducible refine below_drewN ?_ _) | (with_reducible refine below_after ?_ (by assumption))))
          have ho1 := (hof.alloc (.cells #[.int .i64 xc, .int .i64 xm] 63)).later hb1
          have zP := hP1.lt
          obtain ⟨⟨p0, p1⟩, pf⟩ := hP1.c2
          have hbl1 : b < w1.heap.size := by omega
          clear hb1 q0 q1
          go_wp2
          go_quiet ((go_at_call 55; exact Calls.quiet_of_same (stl (inRange_r _ _ _ _))))
          go_wp2
          have hsz := hd1.size
          exact bodyPost_ret (v := .tuple #[.slice none 0 0, .bool false]) (by simp [results, Try.results29, go_sem]) rfl ⟨none, 0, rfl, Nat.le_refl _, Own.none_, by (repeat (first | (with_reducible exact Below.refl _ _) | (with_reducible refine below_alloc ?_ _) | (with_reducible refine below_setCell ?_ ?_ _; (simp <;> omega)) | (with_reducible refine below_drew ?_) | (with_reducible refine below_drewN ?_ _) | (with_reducible refine below_after ?_ (by assumption))))⟩
        · rcases Nat.eq_zero_or_pos k with hk0 | hk0
          · have hk1 : decide ((0 : Int) < (k : Int)) = false := by simp; omega
            have hk2 : decide (0 < k) = false := by simp; omega
            have HK0 := Lib.hid hk0
            clear hk0
            have hgo : Hid (badP ps k = false) := Lib.hid (by rw [HB.out, hco, hrg, hk2]; rfl)
            obtain ⟨hm0, hm1⟩ := inR_iff.1 hrg
            obtain ⟨M, rfl⟩ := Int.eq_ofNat_of_zero_le (show 0 ≤ xm by omega)
            go_wp2_with fail
            refine (implInputOf_any xc _).mono ?_
            rintro e w1 ⟨rfl, hb1⟩
            have hP1 : Bk w1 wr.heap.size 63 #[.int .i64 xc, .int .i64 (M : Int)] := by (repeat (first | (with_reducible assumption) | (with_reducible exact Bk.new _ _ _ (by simp)) | (with_reducible refine Bk.alloc ?_ _) | (with_reducible refine Bk.drew ?_) | (with_reducible refine Bk.drewN ?_ _) | (with_reducible apply Bk.set') | (with_reducible refine Bk.far ?_ (by first | omega | (simp; done) | (simp; omega)) _) | (with_reducible refine Bk.later ?_ (by assumption)) | (with_reducible refine Bk.grown ?_ (by assumption) (by first | omega | (simp; done) | (simp; omega))) | (exact SetTo.mk (by with_reducible rfl)) | (exact SetTo.mk (by simp))))
            have hd1 : Below w.heap.size w w1 := by (repeat (first | (with_reducible exact Below.refl _ _) | (with_reducible refine below_alloc ?_ _) | (with_reducible refine below_setCell ?_ ?_ _; (simp <;> omega)) | (with_reducible refine below_drew ?_) | (with_reducible refine below_drewN ?_ _) | (with_reducible refine below_after ?_ (by assumption))))
            have ho1 := (hof.alloc (.cells #[.int .i64 xc, .int .i64 (M : Int)] 63)).later hb1
            have zP := hP1.lt
            obtain ⟨⟨p0, p1⟩, pf⟩ := hP1.c2
            have hbl1 : b < w1.heap.size := by omega
            clear hb1 q0 q1
            go_wp2
            go_quiet ((go_at_call 55; exact Calls.quiet_of_same (stl (inRange_r _ _ _ _))))
            generalize inpOf xc = xi at *
            have hlto := ho1.lt
            have hs1 := hd1.size
            clear e1 hrg ho hof
            have hML : (List.replicate M xi).length = M := List.length_replicate
            go_wp2_with (first
              | (go_at_call 69; refine (repeatInp_any _ _ xi M _ ?_ (by omega) (by omega)).mono ?_; (exact Sl.inp1 _ _ _ (by simp)); rintro e w3 ⟨A3, c3, rfl, hc3, ho3, hb3⟩; rw [hML] at ho3)
              | (at_builtin; refine wp_appS rfl _ _ 33 rfl w.heap.size 60 i0 (.agg #[.int .i64 0, .int .i64 0, .bool false]) 3 24 Try.underlying33 hi hz0 hz1 hz2 rfl (by decide) encInp_len one_inp _ _ (List.replicate M xi) rfl ((((ho1.alloc _).drewN _).alloc _).later hb3) _ _ _ rfl (ho3.sl encInp_len) ho3.none_cap (by unfold maxLen; omega) (by omega) (by have := hb3.size; simp at this; omega) ?_; intro v4 w4 ho4 hg4))
            case roundEnd =>
              have hg5 : w3.grownBy w4 (Value.slice Av (outTo ps k).length cv).ownBlock := hg4
              have hb4 : Below w.heap.size w w4 := (below_after (below_alloc (below_drewN (below_alloc hd1 _) _) _) hb3).grown hg5 (by have := hb3.size; simp at this; omega) (by intro g e; exact (hlto _ e).1)
              go_roundw
              case rel => exact ⟨k + 1, by omega, by go_num, good_succ HG.out hgo.out, by rw [HO.out, Int.toNat_natCast]; exact ho4, hb4⟩
              case measure => simp [intOf]; omega
          · obtain ⟨b2, off2, y, hA2, hbl2, hy, hcy⟩ := (h.below hb).at_ (k := k - 1) (by omega)
            simp only [Option.some.injEq, Addr.mk.injEq, and_true] at hA2
            obtain ⟨rfl, rfl⟩ := hA2
            obtain ⟨y0, y1⟩ := prt_at hcy
            obtain ⟨yc, ym⟩ := y
            simp only at y0 y1
            have hk1 : decide (0 < k) = true := by simpa using hk0
            have hk2 : (0 : Int) < (k : Int) := by omega
            have hk3 : IntKind.i64.wrap ((k : Int) - 1) = (k : Int) - 1 := IntWalk.i64_in _ (by omega)
            have hk4 : ((k : Int) - 1).toNat = k - 1 := by omega
            have hk5 : (0 : Int) ≤ (k : Int) - 1 := by omega
            have hk6 : (k : Int) - 1 < (ps.length : Int) := by omega
            have hk7 : 1 ≤ k := hk0
            have HY := Lib.hid hy
            clear hy hcy
            cases hq : (yc == xc)
            · have hz : True := trivial
              have hgo : Hid (badP ps k = false) := Lib.hid (by rw [HB.out, hco, hrg, hk1, HY.out]; simp only; rw [hq]; rfl)
              obtain ⟨hm0, hm1⟩ := inR_iff.1 hrg
              obtain ⟨M, rfl⟩ := Int.eq_ofNat_of_zero_le (show 0 ≤ xm by omega)
              go_wp2_with fail
              refine (implInputOf_any xc _).mono ?_
              rintro e w1 ⟨rfl, hb1⟩
              have hP1 : Bk w1 wr.heap.size 63 #[.int .i64 xc, .int .i64 (M : Int)] := by (repeat (first | (with_reducible assumption) | (with_reducible exact Bk.new _ _ _ (by simp)) | (with_reducible refine Bk.alloc ?_ _) | (with_reducible refine Bk.drew ?_) | (with_reducible refine Bk.drewN ?_ _) | (with_reducible apply Bk.set') | (with_reducible refine Bk.far ?_ (by first | omega | (simp; done) | (simp; omega)) _) | (with_reducible refine Bk.later ?_ (by assumption)) | (with_reducible refine Bk.grown ?_ (by assumption) (by first | omega | (simp; done) | (simp; omega))) | (exact SetTo.mk (by with_reducible rfl)) | (exact SetTo.mk (by simp))))
              have hd1 : Below w.heap.size w w1 := by (repeat (first | (with_reducible exact Below.refl _ _) | (with_reducible refine below_alloc ?_ _) | (with_reducible refine below_setCell ?_ ?_ _; (simp <;> omega)) | (with_reducible refine below_drew ?_) | (with_reducible refine below_drewN ?_ _) | (with_reducible refine below_after ?_ (by assumption))))
              have ho1 := (hof.alloc (.cells #[.int .i64 xc, .int .i64 (M : Int)] 63)).later hb1
              have zP := hP1.lt
              obtain ⟨⟨p0, p1⟩, pf⟩ := hP1.c2
              have hbl1 : b < w1.heap.size := by omega
              have r2 : w1.cell? ⟨b, off + (k - 1) * 2, none⟩ = some (.int .i64 yc) := (hb1.cell (p := ⟨b, off + (k - 1) * 2, none⟩) (by simp; omega)).trans ((World.cell?_alloc_lt wr _ ⟨b, off + (k - 1) * 2, none⟩ hbl).trans y0)
              clear y0 y1
              clear hb1 q0 q1
              go_wp2
              go_quiet ((go_at_call 55; exact Calls.quiet_of_same (stl (inRange_r _ _ _ _))))
              generalize inpOf xc = xi at *
              have hlto := ho1.lt
              have hs1 := hd1.size
              clear e1 hrg ho hof
              have hML : (List.replicate M xi).length = M := List.length_replicate
              go_wp2_with (first
                | (go_at_call 69; refine (repeatInp_any _ _ xi M _ ?_ (by omega) (by omega)).mono ?_; (exact Sl.inp1 _ _ _ (by simp)); rintro e w3 ⟨A3, c3, rfl, hc3, ho3, hb3⟩; rw [hML] at ho3)
                | (at_builtin; refine wp_appS rfl _ _ 33 rfl w.heap.size 60 i0 (.agg #[.int .i64 0, .int .i64 0, .bool false]) 3 24 Try.underlying33 hi hz0 hz1 hz2 rfl (by decide) encInp_len one_inp _ _ (List.replicate M xi) rfl ((((ho1.alloc _).drewN _).alloc _).later hb3) _ _ _ rfl (ho3.sl encInp_len) ho3.none_cap (by unfold maxLen; omega) (by omega) (by have := hb3.size; simp at this; omega) ?_; intro v4 w4 ho4 hg4))
              case roundEnd =>
                have hg5 : w3.grownBy w4 (Value.slice Av (outTo ps k).length cv).ownBlock := hg4
                have hb4 : Below w.heap.size w w4 := (below_after (below_alloc (below_drewN (below_alloc hd1 _) _) _) hb3).grown hg5 (by have := hb3.size; simp at this; omega) (by intro g e; exact (hlto _ e).1)
                go_roundw
                case rel => exact ⟨k + 1, by omega, by go_num, good_succ HG.out hgo.out, by rw [HO.out, Int.toNat_natCast]; exact ho4, hb4⟩
                case measure => simp [intOf]; omega
            · have hz : True := trivial
              have hbad : Hid (goodParts ps = false) := Lib.hid (goodParts_no hlt (by rw [HB.out, hco, hrg, hk1, HY.out]; simp only; rw [hq]; rfl))
              have hin : Hid (inputsOf ps = []) := Lib.hid (by unfold inputsOf; rw [hbad.out]; rfl)
              rw [hbad.out, hin.out]
              go_wp2_with fail
              refine (implInputOf_any xc _).mono ?_
              rintro e w1 ⟨rfl, hb1⟩
              have hP1 : Bk w1 wr.heap.size 63 #[.int .i64 xc, .int .i64 xm] := by (repeat (first | (with_reducible assumption) | (with_reducible exact Bk.new _ _ _ (by simp)) | (with_reducible refine Bk.alloc ?_ _) | (with_reducible refine Bk.drew ?_) | (with_reducible refine Bk.drewN ?_ _) | (with_reducible apply Bk.set') | (with_reducible refine Bk.far ?_ (by first | omega | (simp; done) | (simp; omega)) _) | (with_reducible refine Bk.later ?_ (by assumption)) | (with_reducible refine Bk.grown ?_ (by assumption) (by first | omega | (simp; done) | (simp; omega))) | (exact SetTo.mk (by with_reducible rfl)) | (exact SetTo.mk (by simp))))
              have hd1 : Below w.heap.size w w1 := by (repeat (first | (with_reducible exact Below.refl _ _) | (with_reducible refine below_alloc ?_ _) | (with_reducible refine below_setCell ?_ ?_ _; (simp <;> omega)) | (with_reducible refine below_drew ?_) | (with_reducible refine below_drewN ?_ _) | (with_reducible refine below_after ?_ (by assumption))))
              have ho1 := (hof.alloc (.cells #[.int .i64 xc, .int .i64 xm] 63)).later hb1
              have zP := hP1.lt
              obtain ⟨⟨p0, p1⟩, pf⟩ := hP1.c2
              have hbl1 : b < w1.heap.size := by omega
              have r2 : w1.cell? ⟨b, off + (k - 1) * 2, none⟩ = some (.int .i64 yc) := (hb1.cell (p := ⟨b, off + (k - 1) * 2, none⟩) (by simp; omega)).trans ((World.cell?_alloc_lt wr _ ⟨b, off + (k - 1) * 2, none⟩ hbl).trans y0)
              clear y0 y1
              clear hb1 q0 q1
              go_wp2
              go_quiet ((go_at_call 55; exact Calls.quiet_of_same (stl (inRange_r _ _ _ _))))
              go_wp2
              have hsz := hd1.size
              exact bodyPost_ret (v := .tuple #[.slice none 0 0, .bool false]) (by simp [results, Try.results29, go_sem]) rfl ⟨none, 0, rfl, Nat.le_refl _, Own.none_, by (repeat (first | (with_reducible exact Below.refl _ _) | (with_reducible refine below_alloc ?_ _) | (with_reducible refine below_setCell ?_ ?_ _; (simp <;> omega)) | (with_reducible refine below_drew ?_) | (with_reducible refine below_drewN ?_ _) | (with_reducible refine below_after ?_ (by assumption))))⟩
    · have hke : k = ps.length := by omega
      have hgo : Hid (goodParts ps = true) := Lib.hid (goodParts_iff.2 (by rw [← hke]; exact hgood))
      have hin : Hid (inputsOf ps = outTo ps k) := Lib.hid (by unfold inputsOf; rw [hgo.out, hke]; rfl)
      clear h hgood hke
      go_wp2
      refine bodyPost_ret (v := .tuple #[.slice Av (outTo ps k).length cv, .bool true]) (by simp [results, Try.results29, go_sem]) rfl ?_
      rw [hgo.out, hin.out]
      exact ⟨Av, cv, rfl, hcv, ho, hb⟩
end Go.Proofs.Ytkendoffknjpiaa
