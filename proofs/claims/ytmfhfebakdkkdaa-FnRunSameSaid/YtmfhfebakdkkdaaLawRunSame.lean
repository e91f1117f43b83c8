/- The law FnRunSame: its walk. The same inputs give the same run. Printed by gen/lawsT.py. (Round B) -/
import Derived.Test.YtmfhfebakdkkdaaRunR
namespace Go.Proofs.Ytmfhfebakdkkdaa
open Go.ChangeShapes Go.WideShapes Go.ChangeAt Go.RowKit
set_option maxRecDepth 100000 in
set_option maxHeartbeats 8000000 in
theorem lawRunSame (A M : Option Addr) (n nm c cm : Nat) (l : List Int) (w : World) (h : Sl w 1 encU8 A n l) (hl : ∀ x ∈ l, 0 ≤ x ∧ x < 256) (hn : n ≤ 9223372036854775807) (hnc : n ≤ c) (hc : c ≤ 9223372036854775807) (hnm : nm ≤ 9223372036854775807) :
    Calls Try.prog 9 #[.slice A n c, .slice M nm cm] w fun e w' => e = .returned (.bool true) ∧ Below w.heap.size w w' := by
  by_cases h1 : 1048576 < (n : Int)
  · go_enter Try.func9, Try.ntmps9
    go_wp2
    go_ret
    exact ⟨rfl, Below.refl _ _⟩
  by_cases h2 : 1048576 < (nm : Int)
  · go_enter Try.func9, Try.ntmps9
    go_wp2
    go_ret
    exact ⟨rfl, Below.refl _ _⟩
  have hEq := eqStIn
  go_enter Try.func9, Try.ntmps9
  go_wp2_with fail
  refine (drawRunTo_any A n c l _ h hl hn hnc hc).mono ?_
  rintro e w1 ⟨lv, B, B', k, k', ins, A2, c2, m, rfl, hD, ⟨m0, m1⟩, -, d1⟩
  clear h hl
  have nw := hD.nw
  have ng := hD.ng
  have ni := hD.ni
  have ci := hD.ci
  have y1 := d1.size
  obtain ⟨sv, hsv⟩ : ∃ sv, toR lv ins m = sv := ⟨_, rfl⟩
  obtain ⟨bv, hbv⟩ : ∃ bv, toOk lv ins m = bv := ⟨_, rfl⟩
  have HSV := Lib.hid hsv
  have HBV := Lib.hid hbv
  obtain ⟨L, hL⟩ : ∃ L, w1.heap.size = L := ⟨_, rfl⟩
  go_wp2_with fail
  refine (implRunTo_any lv ins m B B' A2 k k' c2 _ (hD.W.below (by (repeat (first | (with_reducible assumption) | (with_reducible exact Below.refl _ _) | (with_reducible refine below_alloc ?_ _) | (with_reducible refine below_setCell ?_ ?_ _; (simp <;> omega)) | (with_reducible refine below_drew ?_) | (with_reducible refine below_drewN ?_ _) | (with_reducible refine below_after ?_ (by assumption)))))) (hD.G.below (by (repeat (first | (with_reducible assumption) | (with_reducible exact Below.refl _ _) | (with_reducible refine below_alloc ?_ _) | (with_reducible refine below_setCell ?_ ?_ _; (simp <;> omega)) | (with_reducible refine below_drew ?_) | (with_reducible refine below_drewN ?_ _) | (with_reducible refine below_after ?_ (by assumption)))))) hD.e hD.e' (by omega) (by omega) (hD.I.below (by (repeat (first | (with_reducible assumption) | (with_reducible exact Below.refl _ _) | (with_reducible refine below_alloc ?_ _) | (with_reducible refine below_setCell ?_ ?_ _; (simp <;> omega)) | (with_reducible refine below_drew ?_) | (with_reducible refine below_drewN ?_ _) | (with_reducible refine below_after ?_ (by assumption)))))) (by omega)).mono ?_
  rw [hsv, hbv]
  rintro e w2 ⟨rfl, hb2⟩
  have FD2 : Drawn lv B B' k k' ins A2 c2 w2 := Drawn.below (by (repeat (first | (with_reducible assumption) | (with_reducible refine Drawn.alloc ?_ _) | (with_reducible refine Drawn.drew ?_)))) hb2
  have FL2 : Bk w2 L 29 #[.int .i64 lv.id, .int .i64 lv.ticks, .int .i64 lv.start.x, .int .i64 lv.start.y, .slice B lv.walls.length k, .slice B' lv.gates.length k', .int .i64 lv.fin.lo.x, .int .i64 lv.fin.lo.y, .int .i64 lv.fin.hi.x, .int .i64 lv.fin.hi.y, .int .i64 lv.bans] := Bk.later (by (repeat (first | (with_reducible assumption) | (with_reducible exact Bk.new _ _ _ (by first | assumption | (simp; done) | (simp; omega))) | (with_reducible refine Bk.alloc ?_ _) | (with_reducible refine Bk.drew ?_) | (with_reducible refine Bk.drewN ?_ _) | (with_reducible apply Bk.set') | (with_reducible refine Bk.far ?_ (by first | omega | (simp; done) | (simp; omega)) _) | (exact SetTo.mk (by with_reducible rfl)) | (exact SetTo.mk (by simp))))) hb2
  have d2 : Below w.heap.size w w2 := below_after (by (repeat (first | (with_reducible assumption) | (with_reducible exact Below.refl _ _) | (with_reducible refine below_alloc ?_ _) | (with_reducible refine below_setCell ?_ ?_ _; (simp <;> omega)) | (with_reducible refine below_drew ?_) | (with_reducible refine below_drewN ?_ _) | (with_reducible refine below_after ?_ (by assumption))))) hb2
  have y2 := d2.size
  have zL2 := FL2.lt
  clear hb2 hD d1 y1
  obtain ⟨⟨cL0, cL1, cL2, cL3, cL4, cL5, cL6, cL7, cL8, cL9, cL10⟩, cLf⟩ := FL2.c11
  obtain ⟨S, hS⟩ : ∃ S, w2.heap.size = S := ⟨_, rfl⟩
  have qLS : L < S := by omega
  go_wp2_with fail
  refine (specRunTo_any lv ins m B B' A2 k k' c2 _ (FD2.W.below (by (repeat (first | (with_reducible assumption) | (with_reducible exact Below.refl _ _) | (with_reducible refine below_alloc ?_ _) | (with_reducible refine below_setCell ?_ ?_ _; (simp <;> omega)) | (with_reducible refine below_drew ?_) | (with_reducible refine below_drewN ?_ _) | (with_reducible refine below_after ?_ (by assumption)))))) (FD2.G.below (by (repeat (first | (with_reducible assumption) | (with_reducible exact Below.refl _ _) | (with_reducible refine below_alloc ?_ _) | (with_reducible refine below_setCell ?_ ?_ _; (simp <;> omega)) | (with_reducible refine below_drew ?_) | (with_reducible refine below_drewN ?_ _) | (with_reducible refine below_after ?_ (by assumption)))))) (FD2.I.below (by (repeat (first | (with_reducible assumption) | (with_reducible exact Below.refl _ _) | (with_reducible refine below_alloc ?_ _) | (with_reducible refine below_setCell ?_ ?_ _; (simp <;> omega)) | (with_reducible refine below_drew ?_) | (with_reducible refine below_drewN ?_ _) | (with_reducible refine below_after ?_ (by assumption)))))) (by omega) (by omega) (by omega)).mono ?_
  rw [hsv, hbv]
  clear hsv hbv
  rintro e w3 ⟨rfl, hb3⟩
  have FD3 : Drawn lv B B' k k' ins A2 c2 w3 := Drawn.below (by (repeat (first | (with_reducible assumption) | (with_reducible refine Drawn.alloc ?_ _) | (with_reducible refine Drawn.drew ?_)))) hb3
  have FL3 : Bk w3 L 29 #[.int .i64 lv.id, .int .i64 lv.ticks, .int .i64 lv.start.x, .int .i64 lv.start.y, .slice B lv.walls.length k, .slice B' lv.gates.length k', .int .i64 lv.fin.lo.x, .int .i64 lv.fin.lo.y, .int .i64 lv.fin.hi.x, .int .i64 lv.fin.hi.y, .int .i64 lv.bans] := Bk.later (by (repeat (first | (with_reducible assumption) | (with_reducible exact Bk.new _ _ _ (by first | assumption | (simp; done) | (simp; omega))) | (with_reducible refine Bk.alloc ?_ _) | (with_reducible refine Bk.drew ?_) | (with_reducible refine Bk.drewN ?_ _) | (with_reducible apply Bk.set') | (with_reducible refine Bk.far ?_ (by first | omega | (simp; done) | (simp; omega)) _) | (exact SetTo.mk (by with_reducible rfl)) | (exact SetTo.mk (by simp))))) hb3
  have FS3 : Bk w3 S 31 #[.int .i64 sv.t, .int .i64 sv.p.x, .int .i64 sv.p.y, .int .i64 sv.f.x, .int .i64 sv.f.y, .int .i64 sv.d, .int .i64 sv.g, .bool sv.dn, .bool sv.ov] := Bk.later (by (repeat (first | (with_reducible assumption) | (with_reducible exact Bk.new _ _ _ (by first | assumption | (simp; done) | (simp; omega))) | (with_reducible refine Bk.alloc ?_ _) | (with_reducible refine Bk.drew ?_) | (with_reducible refine Bk.drewN ?_ _) | (with_reducible apply Bk.set') | (with_reducible refine Bk.far ?_ (by first | omega | (simp; done) | (simp; omega)) _) | (exact SetTo.mk (by with_reducible rfl)) | (exact SetTo.mk (by simp))))) hb3
  have d3 : Below w.heap.size w w3 := below_after (by (repeat (first | (with_reducible assumption) | (with_reducible exact Below.refl _ _) | (with_reducible refine below_alloc ?_ _) | (with_reducible refine below_setCell ?_ ?_ _; (simp <;> omega)) | (with_reducible refine below_drew ?_) | (with_reducible refine below_drewN ?_ _) | (with_reducible refine below_after ?_ (by assumption))))) hb3
  have y3 := d3.size
  have zL3 := FL3.lt
  have zS3 := FS3.lt
  clear hb3 FD2 FL2 d2 y2 zL2 cL0 cL1 cL2 cL3 cL4 cL5 cL6 cL7 cL8 cL9 cL10 cLf
  obtain ⟨⟨cL0, cL1, cL2, cL3, cL4, cL5, cL6, cL7, cL8, cL9, cL10⟩, cLf⟩ := FL3.c11
  obtain ⟨⟨cS0, cS1, cS2, cS3, cS4, cS5, cS6, cS7, cS8⟩, cSf⟩ := FS3.c9
  cases bv
  · go_wp2
    go_ret
    exact ⟨rfl, by (repeat (first | (with_reducible assumption) | (with_reducible exact Below.refl _ _) | (with_reducible refine below_alloc ?_ _) | (with_reducible refine below_setCell ?_ ?_ _; (simp <;> omega)) | (with_reducible refine below_drew ?_) | (with_reducible refine below_drewN ?_ _) | (with_reducible refine below_after ?_ (by assumption))))⟩
  obtain ⟨hr, i0, i1⟩ := toOk_iff.1 HBV.out
  obtain ⟨q, rfl⟩ := Int.eq_ofNat_of_zero_le i0
  have hq : q ≤ ins.length := by omega
  have HSV2 := Lib.hid (show runTo lv ins q = sv from (toR_nat hr hq).symm.trans HSV.out)
  have h60 := (runOk_bd hr).2.1
  clear i0 i1 m0 m1
  have _ := hnm
  obtain ⟨i0, hi, hz0, hz1, hz2⟩ := info_parts Try.infoInput
  have hq2 : q ≤ c2 := by omega
  have hq3 : (q : Int) ≤ (c2 : Int) := by omega
  have hq4 : (0 : Int) ≤ (q : Int) := by omega
  have HLQ := Lib.hid (len_take hq)
  obtain ⟨xs, hxs⟩ : ∃ xs, ins.take q ++ [(⟨0, 0, false⟩ : Inp)] = xs := ⟨_, rfl⟩
  obtain ⟨bx, hbx⟩ : ∃ bx, toOk lv xs (q : Int) = bx := ⟨_, rfl⟩
  obtain ⟨sx, hsx⟩ : ∃ sx, toR lv xs (q : Int) = sx := ⟨_, rfl⟩
  have HBX := Lib.hid hbx
  have HSX := Lib.hid hsx
  go_wp2_with (first
    | (at_builtin; refine wp_appS rfl _ _ 54 rfl w3.heap.size 33 i0 (.agg #[.int .i64 0, .int .i64 0, .bool false]) 3 24 Try.underlying54 hi hz0 hz1 hz2 rfl (by decide) encInp_len one_inp _ [] (ins.take q) rfl (ownI_nil _ _ _ _ (by simp) (by simp)) A2 q c2 rfl ((FD3.I.below (by (repeat (first | (with_reducible assumption) | (with_reducible exact Below.refl _ _) | (with_reducible refine below_alloc ?_ _) | (with_reducible refine below_setCell ?_ ?_ _; (simp <;> omega)) | (with_reducible refine below_drew ?_) | (with_reducible refine below_drewN ?_ _) | (with_reducible refine below_after ?_ (by assumption)))))).takeN hq) FD3.e2 (by unfold maxLen; simp; omega) (by simp; omega) (by simp; omega) ?_; intro v4 w4 ho4 hg4; rw [List.nil_append] at ho4; have y4 := hg4.size)
    | (at_builtin; refine wp_appS rfl _ _ 54 rfl w3.heap.size 33 i0 (.agg #[.int .i64 0, .int .i64 0, .bool false]) 3 24 Try.underlying54 hi hz0 hz1 hz2 rfl (by decide) encInp_len one_inp _ (ins.take q) [(⟨0, 0, false⟩ : Inp)] rfl (ho4.alloc _) _ 1 1 rfl (Sl.oneAt _ (⟨0, 0, false⟩ : Inp) _ _ (by rfl) (by simp)) (by intro e; cases e) (by rw [HLQ.out]; unfold maxLen; omega) (by rw [HLQ.out]; omega) (by simp at y4; simp; omega) ?_; intro v5 w5 ho5 hg5; have hlt4 := Lib.hid ho4.lt; have hb4 : Below w3.heap.size w3 w4 := (below_alloc (below_alloc (Below.refl _ _) _) _).grown hg4 (by simp; omega) (fun k e => lit_row (by omega) e); have y4b := hb4.size; clear hg4 y4; rw [hxs] at ho5; have hxl : xs.length ≤ 100 := (by rw [← hxs, List.length_append, HLQ.out]; simp; omega); have hxr : ∀ b, toOk lv xs (q : Int) = b → b = true → toR lv xs (q : Int) = sv := fun b hb hb2 => (by rw [hb2] at hb; rw [← hxs] at hb ⊢; rw [toR_pre hq hb]; exact HSV2.out); have HXR := Lib.hid hxr; clear hxs hxr; obtain ⟨A5, c5, rfl, hc5, _⟩ := ho5.form; have hb5 : Below w3.heap.size w3 w5 := (below_alloc hb4 _).grown hg5 (by simp; omega) (fun k e => (hlt4.out k e).1); have FD5 : Drawn lv B B' k k' ins A2 c2 w5 := FD3.below hb5; have FL5 : Bk w5 L 29 #[.int .i64 lv.id, .int .i64 lv.ticks, .int .i64 lv.start.x, .int .i64 lv.start.y, .slice B lv.walls.length k, .slice B' lv.gates.length k', .int .i64 lv.fin.lo.x, .int .i64 lv.fin.lo.y, .int .i64 lv.fin.hi.x, .int .i64 lv.fin.hi.y, .int .i64 lv.bans] := FL3.later hb5; have FS5 : Bk w5 S 31 #[.int .i64 sv.t, .int .i64 sv.p.x, .int .i64 sv.p.y, .int .i64 sv.f.x, .int .i64 sv.f.y, .int .i64 sv.d, .int .i64 sv.g, .bool sv.dn, .bool sv.ov] := FS3.later hb5; have d5 : Below w.heap.size w w5 := below_after d3 hb5; have y5 := d5.size; have zL5 := FL5.lt; have zS5 := FS5.lt; clear hg5 hb4 ho4; clear hb5 FD3 FL3 FS3 d3 y3 zL3 zS3 cL0 cL1 cL2 cL3 cL4 cL5 cL6 cL7 cL8 cL9 cL10 cLf cS0 cS1 cS2 cS3 cS4 cS5 cS6 cS7 cS8 cSf; obtain ⟨⟨cL0, cL1, cL2, cL3, cL4, cL5, cL6, cL7, cL8, cL9, cL10⟩, cLf⟩ := FL5.c11))
  have HXR2 := Lib.hid (HXR.out bx HBX.out)
  go_wp2_with fail
  refine (implRunTo_any lv xs q B B' A5 k k' c5 _ (FD5.W.below (by (repeat (first | (with_reducible assumption) | (with_reducible exact Below.refl _ _) | (with_reducible refine below_alloc ?_ _) | (with_reducible refine below_setCell ?_ ?_ _; (simp <;> omega)) | (with_reducible refine below_drew ?_) | (with_reducible refine below_drewN ?_ _) | (with_reducible refine below_after ?_ (by assumption)))))) (FD5.G.below (by (repeat (first | (with_reducible assumption) | (with_reducible exact Below.refl _ _) | (with_reducible refine below_alloc ?_ _) | (with_reducible refine below_setCell ?_ ?_ _; (simp <;> omega)) | (with_reducible refine below_drew ?_) | (with_reducible refine below_drewN ?_ _) | (with_reducible refine below_after ?_ (by assumption)))))) FD5.e FD5.e' (by omega) (by omega) ((ho5.sl encInp_len).below (by (repeat (first | (with_reducible assumption) | (with_reducible exact Below.refl _ _) | (with_reducible refine below_alloc ?_ _) | (with_reducible refine below_setCell ?_ ?_ _; (simp <;> omega)) | (with_reducible refine below_drew ?_) | (with_reducible refine below_drewN ?_ _) | (with_reducible refine below_after ?_ (by assumption)))))) (by omega)).mono ?_
  rw [HBX.out, HSX.out]
  rintro e w6 ⟨rfl, hb6⟩
  have FD6 : Drawn lv B B' k k' ins A2 c2 w6 := Drawn.below (by (repeat (first | (with_reducible assumption) | (with_reducible refine Drawn.alloc ?_ _) | (with_reducible refine Drawn.drew ?_)))) hb6
  have FS6 : Bk w6 S 31 #[.int .i64 sv.t, .int .i64 sv.p.x, .int .i64 sv.p.y, .int .i64 sv.f.x, .int .i64 sv.f.y, .int .i64 sv.d, .int .i64 sv.g, .bool sv.dn, .bool sv.ov] := Bk.later (by (repeat (first | (with_reducible assumption) | (with_reducible exact Bk.new _ _ _ (by first | assumption | (simp; done) | (simp; omega))) | (with_reducible refine Bk.alloc ?_ _) | (with_reducible refine Bk.drew ?_) | (with_reducible refine Bk.drewN ?_ _) | (with_reducible apply Bk.set') | (with_reducible refine Bk.far ?_ (by first | omega | (simp; done) | (simp; omega)) _) | (exact SetTo.mk (by with_reducible rfl)) | (exact SetTo.mk (by simp))))) hb6
  have d6 : Below w.heap.size w w6 := below_after (by (repeat (first | (with_reducible assumption) | (with_reducible exact Below.refl _ _) | (with_reducible refine below_alloc ?_ _) | (with_reducible refine below_setCell ?_ ?_ _; (simp <;> omega)) | (with_reducible refine below_drew ?_) | (with_reducible refine below_drewN ?_ _) | (with_reducible refine below_after ?_ (by assumption))))) hb6
  have y6 := d6.size
  have zS6 := FS6.lt
  clear hb6 FD5 FL5 FS5 ho5 d5 y5 zL5 zS5 cL0 cL1 cL2 cL3 cL4 cL5 cL6 cL7 cL8 cL9 cL10 cLf
  obtain ⟨⟨cS0, cS1, cS2, cS3, cS4, cS5, cS6, cS7, cS8⟩, cSf⟩ := FS6.c9
  cases bx
  · go_wp2
    go_ret
    exact ⟨rfl, by (repeat (first | (with_reducible assumption) | (with_reducible exact Below.refl _ _) | (with_reducible refine below_alloc ?_ _) | (with_reducible refine below_setCell ?_ ?_ _; (simp <;> omega)) | (with_reducible refine below_drew ?_) | (with_reducible refine below_drewN ?_ _) | (with_reducible refine below_after ?_ (by assumption))))⟩
  · obtain rfl : sx = sv := by rw [← HSX.out]; exact HXR2.out rfl
    go_wp2
    go_ret
    exact ⟨rfl, by (repeat (first | (with_reducible assumption) | (with_reducible exact Below.refl _ _) | (with_reducible refine below_alloc ?_ _) | (with_reducible refine below_setCell ?_ ?_ _; (simp <;> omega)) | (with_reducible refine below_drew ?_) | (with_reducible refine below_drewN ?_ _) | (with_reducible refine below_after ?_ (by assumption))))⟩
end Go.Proofs.Ytmfhfebakdkkdaa
