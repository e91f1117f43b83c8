/- The program's boxes. (Round B) -/
import Derived.Test.YtmfhfebakdkkdaaImpC
import Derived.Laws.StructEq
import Derived.Deep.DeepMust
import Derived.Deep.RegionHeld3
namespace Go.Proofs.Ytmfhfebakdkkdaa
open Go.ChangeShapes Go.WideShapes Go.ChangeAt Go.RowKit
theorem axes_any (b : Bx) (w : World) : Calls Try.prog 113 #[.agg #[.int .i64 b.lo.x, .int .i64 b.lo.y, .int .i64 b.hi.x, .int .i64 b.hi.y]] w fun e w' => e = .returned (.agg #[.int .i64 b.lo.x, .int .i64 b.hi.x, .int .i64 b.lo.y, .int .i64 b.hi.y]) ∧ Below w.heap.size w w' := by
  go_enter Try.func113, Try.ntmps113
  go_wp2
  refine bodyPost_ret (v := .agg #[.int .i64 b.lo.x, .int .i64 b.hi.x, .int .i64 b.lo.y, .int .i64 b.hi.y]) (by simp [results, Try.results113, go_sem, *]) rfl ⟨rfl, ?_⟩; (repeat (first | (with_reducible exact Below.refl _ _) | (with_reducible refine below_alloc ?_ _) | (with_reducible refine below_setCell ?_ ?_ _; (simp <;> omega)) | (with_reducible refine below_drew ?_) | (with_reducible refine below_drewN ?_ _) | (with_reducible refine below_after ?_ (by assumption))))
/-- A box whose sides run the right way. -/
def ordB (b : Bx) : Prop := b.lo.x ≤ b.hi.x ∧ b.lo.y ≤ b.hi.y
theorem bxOk_ord {b : Bx} (h : bxOk b = true) : ordB b := by
  simp only [bxOk, Bool.and_eq_true, decide_eq_true_eq] at h
  exact ⟨h.2.2.1, h.2.2.2⟩
theorem nearest_any (b : Bx) (v : V2) (w : World) (ho : ordB b) : Calls Try.prog 115 #[.agg #[.int .i64 b.lo.x, .int .i64 b.lo.y, .int .i64 b.hi.x, .int .i64 b.hi.y], .agg #[.int .i64 v.x, .int .i64 v.y]] w fun e w' => e = .returned (.agg #[.int .i64 (nearV b v).x, .int .i64 (nearV b v).y]) ∧ Below w.heap.size w w' := by
  obtain ⟨o1, o2⟩ := ho
  go_enter Try.func115, Try.ntmps115
  go_wp2_with fail
  refine (axes_any b _).mono ?_
  rintro e w1 ⟨rfl, hb1⟩
  have B1 : Bk w1 (w.heap.size + 1) 24 #[.int .i64 v.x, .int .i64 v.y] := Bk.later (by (repeat (first | (with_reducible assumption) | (with_reducible exact Bk.new _ _ _ (by simp; done)) | (with_reducible refine Bk.alloc ?_ _) | (with_reducible refine Bk.drew ?_) | (with_reducible refine Bk.drewN ?_ _) | (with_reducible apply Bk.set') | (with_reducible refine Bk.far ?_ (by first | omega | (simp; done) | (simp; omega)) _) | (with_reducible refine Bk.later ?_ (by assumption)) | (with_reducible refine Bk.grown ?_ (by assumption) (by first | omega | (simp; done) | (simp; omega))) | (exact SetTo.mk (by with_reducible rfl)) | (exact SetTo.mk (by simp))))) hb1
  have R1 : Bk w1 (w.heap.size + 1 + 1) 24 #[.int .i64 0, .int .i64 0] := Bk.later (by (repeat (first | (with_reducible assumption) | (with_reducible exact Bk.new _ _ _ (by simp; done)) | (with_reducible refine Bk.alloc ?_ _) | (with_reducible refine Bk.drew ?_) | (with_reducible refine Bk.drewN ?_ _) | (with_reducible apply Bk.set') | (with_reducible refine Bk.far ?_ (by first | omega | (simp; done) | (simp; omega)) _) | (with_reducible refine Bk.later ?_ (by assumption)) | (with_reducible refine Bk.grown ?_ (by assumption) (by first | omega | (simp; done) | (simp; omega))) | (exact SetTo.mk (by with_reducible rfl)) | (exact SetTo.mk (by simp))))) hb1
  have d1 : Below w.heap.size w w1 := by (repeat (first | (with_reducible exact Below.refl _ _) | (with_reducible refine below_alloc ?_ _) | (with_reducible refine below_setCell ?_ ?_ _; (simp <;> omega)) | (with_reducible refine below_drew ?_) | (with_reducible refine below_drewN ?_ _) | (with_reducible refine below_after ?_ (by assumption))))
  have z1 := B1.lt
  have z2 := R1.lt
  clear hb1
  obtain ⟨⟨p0, p1⟩, pf⟩ := B1.c2
  obtain ⟨⟨r0, r1⟩, rf⟩ := R1.c2
  go_wp2
  all_goals
    refine bodyPost_ret (v := .agg #[.int .i64 (nearV b v).x, .int .i64 (nearV b v).y]) ?_ rfl ⟨rfl, ?_⟩
    · simp [results, Try.results115, go_sem, nearV, r0, r1, z2]; omega
    · (repeat (first | (with_reducible assumption) | (with_reducible exact Below.refl _ _) | (with_reducible refine below_alloc ?_ _) | (with_reducible refine below_setCell ?_ ?_ _; (simp <;> omega)) | (with_reducible refine below_drew ?_) | (with_reducible refine below_drewN ?_ _) | (with_reducible refine below_after ?_ (by assumption))))
theorem square_bd (x y : Int) (w : World) (hx : -200000000 ≤ x ∧ x ≤ 200000000) (hy : -200000000 ≤ y ∧ y ≤ 200000000) : Calls Try.prog 122 #[.agg #[.int .i64 x, .int .i64 y]] w fun e w' => e = .returned (.int .i64 (x * x + y * y)) ∧ Below w.heap.size w w' := by
  obtain ⟨a0, a1⟩ := sq_bd hx
  obtain ⟨b0, b1⟩ := sq_bd hy
  obtain ⟨x0, x1⟩ := hx
  obtain ⟨y0, y1⟩ := hy
  go_enter Try.func122, Try.ntmps122
  go_wp2
  go_ret
  exact ⟨rfl, by (repeat (first | (with_reducible exact Below.refl _ _) | (with_reducible refine below_alloc ?_ _) | (with_reducible refine below_setCell ?_ ?_ _; (simp <;> omega)) | (with_reducible refine below_drew ?_) | (with_reducible refine below_drewN ?_ _) | (with_reducible refine below_after ?_ (by assumption))))⟩
theorem eqVec_run (w : World) (a b c d : Int) : (binOp .eql 24 (.agg #[.int .i64 a, .int .i64 b]) (.agg #[.int .i64 c, .int .i64 d])).run Try.prog w = .ok (.bool (a == c && b == d)) w := by
  have hu : Try.prog.underlying 24 = some (.struct (Try.prog.fieldsOf 24)) := by kernel_rfl
  have hp : Try.prog.stoodInHeld 24 = false := by kernel_rfl
  have hi : Try.prog.underlying 3 = some (.int .i64) := by kernel_rfl
  have hm : ((Try.prog.fieldsOf 24).toList.map fun f => (f.name, f.type, f.offset)) = [("X", 3, 0), ("Y", 3, 1)] := by kernel_rfl
  rw [run_eql_struct, run_equalIn_struct w _ _ _ _ hu hp]
  clear hu hp
  revert hm
  generalize (Try.prog.fieldsOf 24).toList = fs
  intro hm
  obtain ⟨f, fs1, rfl, hf, hm⟩ := List.map_eq_cons_iff.1 hm
  obtain ⟨g, fs2, rfl, hg, hm⟩ := List.map_eq_cons_iff.1 hm
  obtain rfl := List.map_eq_nil_iff.1 hm
  simp only [Prod.mk.injEq] at hf hg
  obtain ⟨f1, f2, f3⟩ := hf
  obtain ⟨g1, g2, g3⟩ := hg
  simp [Op.eqFields, part, go_sem, hi, f1, f2, f3, g1, g2, g3]
  by_cases h1 : a = c <;> by_cases h2 : b = d <;> simp [h1, h2]
theorem near_in {b : Bx} {v : V2} (ho : ordB b) : ((nearV b v).x == v.x && (nearV b v).y == v.y) = hasV b v := by
  obtain ⟨o1, o2⟩ := ho
  rw [Bool.eq_iff_iff]
  simp only [hasV, inR, nearV, Bool.and_eq_true, beq_iff_eq, decide_eq_true_eq]
  omega
theorem keepBV {W w' : World} {g g' : Nat} {t t' : TypeId} {x0 x1 x2 x3 y0 y1 : Value} (hA : Bk W g t #[x0, x1, x2, x3]) (hB : Bk W g' t' #[y0, y1]) (h : Below W.heap.size W w') :
    (w'.cell? ⟨g, 0, none⟩ = some x0 ∧ w'.cell? ⟨g, 1, none⟩ = some x1 ∧ w'.cell? ⟨g, 2, none⟩ = some x2 ∧ w'.cell? ⟨g, 3, none⟩ = some x3) ∧ w'.cell? ⟨g', 0, none⟩ = some y0 ∧ w'.cell? ⟨g', 1, none⟩ = some y1 :=
  ⟨(hA.later h).c4.1, (hB.later h).c2.1⟩
set_option maxHeartbeats 2000000 in
theorem has_any (b : Bx) (v : V2) (w : World) (ho : ordB b) : Calls Try.prog 76 #[.agg #[.int .i64 b.lo.x, .int .i64 b.lo.y, .int .i64 b.hi.x, .int .i64 b.hi.y], .agg #[.int .i64 v.x, .int .i64 v.y]] w fun e w' => e = .returned (.bool (hasV b v)) ∧ Below w.heap.size w w' := by
  have hE := near_in (v := v) ho
  go_enter Try.func76, Try.ntmps76
  go_wp2
  refine wp_world (fun W => Bk W w.heap.size 27 #[.int .i64 b.lo.x, .int .i64 b.lo.y, .int .i64 b.hi.x, .int .i64 b.hi.y] ∧ Bk W (w.heap.size + 1) 24 #[.int .i64 v.x, .int .i64 v.y] ∧ Below w.heap.size w W) ⟨by (repeat (first | (with_reducible assumption) | (with_reducible exact Bk.new _ _ _ (by simp; done)) | (with_reducible refine Bk.alloc ?_ _) | (with_reducible refine Bk.drew ?_) | (with_reducible refine Bk.drewN ?_ _) | (with_reducible apply Bk.set') | (with_reducible refine Bk.far ?_ (by first | omega | (simp; done) | (simp; omega)) _) | (with_reducible refine Bk.later ?_ (by assumption)) | (with_reducible refine Bk.grown ?_ (by assumption) (by first | omega | (simp; done) | (simp; omega))) | (exact SetTo.mk (by with_reducible rfl)) | (exact SetTo.mk (by simp)))), by (repeat (first | (with_reducible assumption) | (with_reducible exact Bk.new _ _ _ (by simp; done)) | (with_reducible refine Bk.alloc ?_ _) | (with_reducible refine Bk.drew ?_) | (with_reducible refine Bk.drewN ?_ _) | (with_reducible apply Bk.set') | (with_reducible refine Bk.far ?_ (by first | omega | (simp; done) | (simp; omega)) _) | (with_reducible refine Bk.later ?_ (by assumption)) | (with_reducible refine Bk.grown ?_ (by assumption) (by first | omega | (simp; done) | (simp; omega))) | (exact SetTo.mk (by with_reducible rfl)) | (exact SetTo.mk (by simp)))), by (repeat (first | (with_reducible exact Below.refl _ _) | (with_reducible refine below_alloc ?_ _) | (with_reducible refine below_setCell ?_ ?_ _; (simp <;> omega)) | (with_reducible refine below_drew ?_) | (with_reducible refine below_drewN ?_ _) | (with_reducible refine below_after ?_ (by assumption))))⟩ ?_
  rintro W ⟨hA, hB, hd⟩
  have zA := hA.lt
  have zB := hB.lt
  obtain ⟨⟨a0, a1, a2, a3⟩, af⟩ := hA.c4
  obtain ⟨⟨p0, p1⟩, pf⟩ := hB.c2
  have hq1 := eqVec_run
  go_region_held3 (fun w' => (w'.cell? ⟨w.heap.size, 0, none⟩ = some (.int .i64 b.lo.x) ∧ w'.cell? ⟨w.heap.size, 1, none⟩ = some (.int .i64 b.lo.y) ∧ w'.cell? ⟨w.heap.size, 2, none⟩ = some (.int .i64 b.hi.x) ∧ w'.cell? ⟨w.heap.size, 3, none⟩ = some (.int .i64 b.hi.y)) ∧ w'.cell? ⟨w.heap.size + 1, 0, none⟩ = some (.int .i64 v.x) ∧ w'.cell? ⟨w.heap.size + 1, 1, none⟩ = some (.int .i64 v.y))
    (first | (with_reducible exact keepBV hA hB (below_drew (Below.refl _ _))) | (with_reducible exact keepBV hA hB (below_after (below_drew (Below.refl _ _)) hb1)))
    (first
    | (go_at_call 115; refine (nearest_any b v _ ho).mono ?_; rintro e w1 ⟨rfl, hb1⟩))
  all_goals
    go_wp2
    go_ret
    exact ⟨by first | exact ret_bool hE | rfl, by (repeat (first | (with_reducible assumption) | (with_reducible exact Below.refl _ _) | (with_reducible refine below_alloc ?_ _) | (with_reducible refine below_setCell ?_ ?_ _; (simp <;> omega)) | (with_reducible refine below_drew ?_) | (with_reducible refine below_drewN ?_ _) | (with_reducible refine below_after ?_ (by assumption))))⟩
theorem touches_any (b : Bx) (v : V2) (w : World) (ho : ordB b) (hb : bdBx b) (hv : bdV v) : Calls Try.prog 120 #[.agg #[.int .i64 b.lo.x, .int .i64 b.lo.y, .int .i64 b.hi.x, .int .i64 b.hi.y], .agg #[.int .i64 v.x, .int .i64 v.y], .int .i64 500] w fun e w' => e = .returned (.bool (touchB b v 500)) ∧ Below w.heap.size w w' := by
  have hnb := near_bd hb hv
  unfold bdV at hv hnb
  obtain ⟨v1, v2, v3, v4⟩ := hv
  obtain ⟨n1, n2, n3, n4⟩ := hnb
  go_enter Try.func120, Try.ntmps120
  go_wp2_with fail
  refine (nearest_any b v _ ho).mono ?_
  rintro e w1 ⟨rfl, hb1⟩
  obtain ⟨hc1, hf1⟩ := bcell hb1; have hy1 : w.heap.size < w1.heap.size := (by have := hb1.size; first | omega | (simp at this; omega)); have hz1 : w.heap.size + 1 < w1.heap.size := (by have := hb1.size; first | omega | (simp at this; omega))
  go_wp2_with fail
  refine (square_bd (v.x - (nearV b v).x) (v.y - (nearV b v).y) _ (by omega) (by omega)).mono ?_
  rintro e w2 ⟨rfl, hb2⟩
  go_wp2
  go_ret
  refine ⟨ret_bool (by simp [touchB]), ?_⟩; (repeat (first | (with_reducible exact Below.refl _ _) | (with_reducible refine below_alloc ?_ _) | (with_reducible refine below_setCell ?_ ?_ _; (simp <;> omega)) | (with_reducible refine below_drew ?_) | (with_reducible refine below_drewN ?_ _) | (with_reducible refine below_after ?_ (by assumption))))
end Go.Proofs.Ytmfhfebakdkkdaa
