/- The program's LevelValid: all boxes of a level in one slice; is one of them no box. (Round B) -/
import Derived.Test.YtmfhfebakdkkdaaImpE
import Derived.Test.YtmfhfebakdkkdaaAppL
import Derived.Test.YtmfhfebakdkkdaaInpL
import Derived.Lib.AppendZeros
namespace Go.Proofs.Ytmfhfebakdkkdaa
open Go.ChangeShapes Go.WideShapes Go.ChangeAt Go.RowKit
theorem Try.infoBox : (Try.prog.info? 27).map (fun i => (i.zero, i.size, i.bytes)) = some (some (.agg #[.int .i64 0, .int .i64 0, .int .i64 0, .int .i64 0]), 4, 32) := by kernel_rfl
theorem one_bx (b : Bx) : ∀ u ∈ encBx b, u.oneCell' = true := by
  intro u hu
  simp only [encBx, List.mem_cons, List.not_mem_nil, or_false] at hu
  rcases hu with rfl | rfl | rfl | rfl <;> rfl
theorem own_new_nil {α : Type} {enc : α → List Value} {w : World} {T : TypeId} {sz cap B : Nat} {cs : Array Value} (hB : B ≤ w.heap.size) (hc : cap ≤ maxLen) (hs : cs.size = cap * sz) : Own (w.alloc (.cells cs T)) B T sz enc (.slice (some ⟨w.heap.size, 0, none⟩) 0 cap) [] := by
  refine ⟨by simp, .inr ⟨w.heap.size, cap, cs, rfl, hB, heap_alloc_new w _, Nat.zero_le _, hc, hs, by simp⟩⟩
set_option maxRecDepth 100000 in
set_option maxHeartbeats 2000000 in
theorem growBox_any (n : Nat) (w : World) (h1 : 1 ≤ n) (hn : n ≤ 1000) : Calls Try.prog 154 #[.slice none 0 0, .int .i64 n] w (RetOwn 27 4 encBx ([] : List Bx) w) := by
  obtain ⟨i0, hi, hz0, hz1, hz2⟩ := info_parts Try.infoBox
  have hap := Lib.run_append_nil_zeros (P := Try.prog) w 25 3 25 27 i0 _ .i64 .i64 Try.underlying25 (by kernel_rfl) hi hz0 n (by omega) (by omega) (by omega) (by rw [hz2]; omega)
  have hcg := grownCap_ge w n 0 27
  have hcm := grownCap_le_maxLen w n 0 27 (by unfold maxLen; omega)
  have hO : Own (w.drew.alloc (.cells (Builtin.zeroCells (Value.agg #[.int .i64 0, .int .i64 0, .int .i64 0, .int .i64 0]).cells n ++ Builtin.zeroCells (Value.agg #[.int .i64 0, .int .i64 0, .int .i64 0, .int .i64 0]).cells (grownCap w n 0 27 - n)) 27)) w.heap.size 27 4 encBx (.slice (some ⟨w.heap.size, 0, none⟩) 0 (grownCap w n 0 27)) [] := by
    refine own_new_nil (w := w.drew) (Nat.le_refl _) hcm ?_
    rw [Array.size_append, size_zeroCells, size_zeroCells, show (Value.agg #[.int .i64 0, .int .i64 0, .int .i64 0, .int .i64 0]).cells.size = 4 from rfl, ← Nat.add_mul]
    congr 1
    omega
  generalize grownCap w n 0 27 = cap at *
  have hb : Below w.heap.size w (w.drew.alloc (.cells (Builtin.zeroCells (Value.agg #[.int .i64 0, .int .i64 0, .int .i64 0, .int .i64 0]).cells n ++ Builtin.zeroCells (Value.agg #[.int .i64 0, .int .i64 0, .int .i64 0, .int .i64 0]).cells (cap - n)) 27)) := by (repeat (first | (with_reducible exact Below.refl _ _) | (with_reducible refine below_alloc ?_ _) | (with_reducible refine below_setCell ?_ ?_ _; (simp <;> omega)) | (with_reducible refine below_drew ?_) | (with_reducible refine below_drewN ?_ _) | (with_reducible refine below_after ?_ (by assumption))))
  generalize (w.drew.alloc (.cells (Builtin.zeroCells (Value.agg #[.int .i64 0, .int .i64 0, .int .i64 0, .int .i64 0]).cells n ++ Builtin.zeroCells (Value.agg #[.int .i64 0, .int .i64 0, .int .i64 0, .int .i64 0]).cells (cap - n)) 27)) = w' at *
  go_enter Try.func154, Try.ntmps154
  go_wp2_with (at_builtin; refine Lib.wpList_append_run _ rfl _ _ _ _ rfl _ _ rfl rfl _ _ hap ?_)
  exact bodyPost_ret (v := .slice (some ⟨w.heap.size, 0, none⟩) 0 cap) (by simp [results, Try.results154, go_sem]) rfl ⟨_, cap, rfl, Nat.zero_le _, hO, hb⟩
set_option maxRecDepth 100000 in
set_option maxHeartbeats 4000000 in
theorem concatBox_any (g c0 : Nat) (A1 A2 A3 : Option Addr) (c1 c2 c3 : Nat) (l1 l2 l3 : List Bx) (w : World) (hg : Bk w g 25 #[.slice A1 l1.length c1, .slice A2 l2.length c2, .slice A3 l3.length c3])
    (h1 : Sl w 4 encBx A1 l1.length l1) (h2 : Sl w 4 encBx A2 l2.length l2) (h3 : Sl w 4 encBx A3 l3.length l3) (e1 : A1 = none → c1 = 0) (e2 : A2 = none → c2 = 0) (e3 : A3 = none → c3 = 0)
    (hn0 : 1 ≤ l1.length + l2.length + l3.length) (hn : l1.length + l2.length + l3.length ≤ 1000) :
    Calls Try.prog 139 #[.slice (some ⟨g, 0, none⟩) 3 c0] w (RetOwn 27 4 encBx (l1 ++ l2 ++ l3) w) := by
  obtain ⟨i0, hi, hz0, hz1, hz2⟩ := info_parts Try.infoBox
  have hgr := growBox_any (l1.length + l2.length + l3.length) w hn0 hn
  rw [Int.natCast_add, Int.natCast_add] at hgr
  have zg := hg.lt
  obtain ⟨⟨g0, g1, g2⟩, gf⟩ := hg.c3
  go_enter Try.func139, Try.ntmps139
  go_wp2
  refine wp_loop_rounds 4 ?_
  rw [rounds_succ]
  go_wp2
  rw [rounds_succ]
  go_wp2
  rw [rounds_succ]
  go_wp2
  rw [rounds_succ]
  go_wp2_with fail
  refine hgr.mono ?_
  rintro e w1 ⟨A0, cc, rfl, hcc, O1, b1⟩
  simp only [List.length_nil] at O1 hcc ⊢
  have o1 := fun g e => (O1.lt g e).1
  have hG1 := hg.later b1
  have z1 := b1.size
  clear g0 g1 g2 gf hgr
  obtain ⟨⟨g0, g1, g2⟩, gf⟩ := hG1.c3
  go_wp2
  refine wp_loop_rounds 4 ?_
  rw [rounds_succ]
  go_wp2_with (at_builtin; refine wp_appS rfl _ _ 25 rfl w.heap.size 27 i0 (.agg #[.int .i64 0, .int .i64 0, .int .i64 0, .int .i64 0]) 4 32 Try.underlying25 hi hz0 hz1 hz2 rfl (by decide) encBx_len one_bx _ [] l1 rfl O1 _ _ _ rfl (h1.below b1) e1 (by unfold maxLen; simp; omega) (by simp; omega) z1 ?_; intro v2 w2 O2 gr2)
  have b2 : Below w.heap.size w w2 := b1.grown gr2 z1 o1
  have o2 := fun g e => (O2.lt g e).1
  have hG2 := hg.later b2
  have z2 := b2.size
  clear g0 g1 g2 gf hG1 gr2 O1 o1
  obtain ⟨⟨g0, g1, g2⟩, gf⟩ := hG2.c3
  rw [rounds_succ]
  go_wp2_with (at_builtin; refine wp_appS rfl _ _ 25 rfl w.heap.size 27 i0 (.agg #[.int .i64 0, .int .i64 0, .int .i64 0, .int .i64 0]) 4 32 Try.underlying25 hi hz0 hz1 hz2 rfl (by decide) encBx_len one_bx _ ([] ++ l1) l2 rfl O2 _ _ _ rfl (h2.below b2) e2 (by unfold maxLen; simp; omega) (by simp; omega) z2 ?_; intro v3 w3 O3 gr3)
  have b3 : Below w.heap.size w w3 := b2.grown gr3 z2 o2
  have o3 := fun g e => (O3.lt g e).1
  have hG3 := hg.later b3
  have z3 := b3.size
  clear g0 g1 g2 gf hG2 gr3 O2 o2
  obtain ⟨⟨g0, g1, g2⟩, gf⟩ := hG3.c3
  rw [rounds_succ]
  go_wp2_with (at_builtin; refine wp_appS rfl _ _ 25 rfl w.heap.size 27 i0 (.agg #[.int .i64 0, .int .i64 0, .int .i64 0, .int .i64 0]) 4 32 Try.underlying25 hi hz0 hz1 hz2 rfl (by decide) encBx_len one_bx _ ([] ++ l1 ++ l2) l3 rfl O3 _ _ _ rfl (h3.below b3) e3 (by unfold maxLen; simp; omega) (by simp; omega) z3 ?_; intro v4 w4 O4 gr4)
  have b4 : Below w.heap.size w w4 := b3.grown gr4 z3 o3
  clear g0 g1 g2 gf hG3 gr4 O3 o3
  rw [List.nil_append] at O4
  obtain ⟨A4, c4, rfl, hc4, _⟩ := O4.form
  rw [rounds_succ]
  go_wp2
  exact bodyPost_ret (v := .slice A4 (l1 ++ l2 ++ l3).length c4) (by simp [results, Try.results139, go_sem]) rfl ⟨A4, c4, rfl, hc4, O4, b4⟩
def allBx (l : Lev) : List Bx := l.walls ++ l.gates ++ [l.fin]
theorem allBx_ok (l : Lev) : (allBx l).all bxOk = (boxesB l.walls && (boxesB l.gates && bxOk l.fin)) := by simp [allBx, boxesB, List.all_append]
set_option maxRecDepth 100000 in
set_option maxHeartbeats 2000000 in
theorem boxes_any (l : Lev) (A A' : Option Addr) (c c' : Nat) (w : World) (h : Sl w 4 encBx A l.walls.length l.walls) (h' : Sl w 4 encBx A' l.gates.length l.gates) (e : A = none → c = 0) (e' : A' = none → c' = 0) (hn : l.walls.length ≤ 100) (hn' : l.gates.length ≤ 100) :
    Calls Try.prog 117 #[.agg #[.int .i64 l.id, .int .i64 l.ticks, .int .i64 l.start.x, .int .i64 l.start.y, .slice A l.walls.length c, .slice A' l.gates.length c', .int .i64 l.fin.lo.x, .int .i64 l.fin.lo.y, .int .i64 l.fin.hi.x, .int .i64 l.fin.hi.y, .int .i64 l.bans]] w (RetOwn 27 4 encBx (allBx l) w) := by
  go_enter Try.func117, Try.ntmps117
  go_wp2_with fail
  have hS := (Sl.one (enc := encBx) (sz := 4) (w.alloc (.cells #[.int .i64 l.id, .int .i64 l.ticks, .int .i64 l.start.x, .int .i64 l.start.y, .slice A l.walls.length c, .slice A' l.gates.length c', .int .i64 l.fin.lo.x, .int .i64 l.fin.lo.y, .int .i64 l.fin.hi.x, .int .i64 l.fin.hi.y, .int .i64 l.bans] 29)) l.fin 27 #[.int .i64 l.fin.lo.x, .int .i64 l.fin.lo.y, .int .i64 l.fin.hi.x, .int .i64 l.fin.hi.y] rfl)
  rw [World.size_alloc] at hS
  refine (concatBox_any (w.heap.size + 1 + 1) _ A A' (some ⟨w.heap.size + 1, 0, none⟩) c c' 1 l.walls l.gates [l.fin] _ (by simp only [List.length_cons, List.length_nil, Nat.zero_add]; (repeat (first | (with_reducible assumption) | (with_reducible exact Bk.new _ _ _ (by simp; done)) | (with_reducible refine Bk.alloc ?_ _) | (with_reducible refine Bk.drew ?_) | (with_reducible refine Bk.drewN ?_ _) | (with_reducible apply Bk.set') | (with_reducible refine Bk.far ?_ (by first | omega | (simp; done) | (simp; omega)) _) | (with_reducible refine Bk.later ?_ (by assumption)) | (with_reducible refine Bk.grown ?_ (by assumption) (by first | omega | (simp; done) | (simp; omega))) | (exact SetTo.mk (by with_reducible rfl)) | (exact SetTo.mk (by simp))))) (h.below (by (repeat (first | (with_reducible exact Below.refl _ _) | (with_reducible refine below_alloc ?_ _) | (with_reducible refine below_setCell ?_ ?_ _; (simp <;> omega)) | (with_reducible refine below_drew ?_) | (with_reducible refine below_drewN ?_ _) | (with_reducible refine below_after ?_ (by assumption)))))) (h'.below (by (repeat (first | (with_reducible exact Below.refl _ _) | (with_reducible refine below_alloc ?_ _) | (with_reducible refine below_setCell ?_ ?_ _; (simp <;> omega)) | (with_reducible refine below_drew ?_) | (with_reducible refine below_drewN ?_ _) | (with_reducible refine below_after ?_ (by assumption)))))) (hS.below (below_alloc (Below.refl _ _) _)) e e' (by intro e; cases e) (by simp) (by simp; omega)).mono ?_
  rintro e w1 ⟨A4, c4, rfl, hc4, O4, b4⟩
  go_wp2
  refine bodyPost_ret (v := .slice A4 (allBx l).length c4) (by simp [results, Try.results117, go_sem, allBx]) rfl ⟨A4, c4, rfl, hc4, O4.mono (by simp; omega), ?_⟩
  (repeat (first | (with_reducible assumption) | (with_reducible exact Below.refl _ _) | (with_reducible refine below_alloc ?_ _) | (with_reducible refine below_setCell ?_ ?_ _; (simp <;> omega)) | (with_reducible refine below_drew ?_) | (with_reducible refine below_drewN ?_ _) | (with_reducible refine below_after ?_ (by assumption))))
theorem levelValid1_any (b : Bx) (w : World) : Calls Try.prog 118 #[.agg #[.int .i64 b.lo.x, .int .i64 b.lo.y, .int .i64 b.hi.x, .int .i64 b.hi.y]] w fun e w' => e = .returned (.bool (!bxOk b)) ∧ Below w.heap.size w w' := by
  go_enter Try.func118, Try.ntmps118
  go_wp2_with (go_at_call 74; refine (implBoxValid_any _ _).mono ?_; rintro e w1 ⟨rfl, hb1⟩)
  go_ret
  exact ⟨rfl, by (repeat (first | (with_reducible assumption) | (with_reducible exact Below.refl _ _) | (with_reducible refine below_alloc ?_ _) | (with_reducible refine below_setCell ?_ ?_ _; (simp <;> omega)) | (with_reducible refine below_drew ?_) | (with_reducible refine below_drewN ?_ _) | (with_reducible refine below_after ?_ (by assumption))))⟩
set_option maxRecDepth 100000 in
theorem indexFuncBox_any (A : Option Addr) (n c : Nat) (l : List Bx) (w : World) (h : Sl w 4 encBx A n l) (hn : n ≤ 9223372036854775807) : Calls Try.prog 138 #[.slice A n c, .func (.func 118) #[] #[]] w (SomeIdx (!l.all bxOk) w) := by
  obtain rfl := h.len
  go_enter Try.func138, Try.ntmps138
  go_wp2
  go_loopw [8] (fun i wr => ∃ k : Nat, k ≤ l.length ∧ i = .int .i64 k ∧ (l.take k).all bxOk = true ∧ Below w.heap.size w wr) (fun i _ => l.length - (intOf i).toNat)
  case atStart => exact ⟨0, Nat.zero_le _, rfl, rfl, Below.refl _ _⟩
  case round =>
    obtain ⟨k, hk, rfl, ht, hb⟩ := hrel
    have Ht := Lib.hid ht; clear ht
    by_cases hlt : k < l.length
    · obtain ⟨b, off, x, rfl, hbl, hx, hc⟩ := (h.below hb).at_ hlt
      have q0 : wr.cell? ⟨b, off + k * 4, none⟩ = some (.int .i64 x.lo.x) := hc 0 _ rfl
      have q1 : wr.cell? ⟨b, off + k * 4 + 1, none⟩ = some (.int .i64 x.lo.y) := hc 1 _ rfl
      have q2 : wr.cell? ⟨b, off + k * 4 + 2, none⟩ = some (.int .i64 x.hi.x) := hc 2 _ rfl
      have q3 : wr.cell? ⟨b, off + k * 4 + 3, none⟩ = some (.int .i64 x.hi.y) := hc 3 _ rfl
      have Hx := Lib.hid hx; clear hx
      clear h hc
      cases hbx : bxOk x
      · go_wp2_with (go_at_call 118; refine (levelValid1_any x _).mono ?_; rw [hbx]; rintro e w' ⟨rfl, hb1⟩)
        go_ret
        exact ⟨(k : Int), rfl, by rw [all_not Hx.out hbx]; simp, hb.trans (hb1.mono hb.size)⟩
      · go_wp2_with (go_at_call 118; refine (levelValid1_any x _).mono ?_; rw [hbx]; rintro e w' ⟨rfl, hb1⟩)
        go_roundw
        case rel => exact ⟨k + 1, by omega, by go_num, all_take Hx.out Ht.out hbx, hb.trans (hb1.mono hb.size)⟩
        case measure => simp [intOf]; omega
    · have hkn : l.take k = l := List.take_of_length_le (by omega)
      have H := Lib.hid hkn; clear hkn
      go_wp2
      go_ret
      exact ⟨-1, rfl, by have := Ht.out; rw [H.out] at this; rw [this]; rfl, hb⟩
theorem containsFuncBox_any (A : Option Addr) (n c : Nat) (l : List Bx) (w : World) (h : Sl w 4 encBx A n l) (hn : n ≤ 9223372036854775807) : Calls Try.prog 116 #[.slice A n c, .func (.func 118) #[] #[]] w fun e w' => e = .returned (.bool (!l.all bxOk)) ∧ Below w.heap.size w w' := by
  go_enter Try.func116, Try.ntmps116
  go_wp2_with (go_at_call 138; refine (indexFuncBox_any _ _ _ l _ h hn).mono ?_; rintro e w' ⟨r, rfl, hr, hb⟩; have HR := Lib.hid hr; clear hr)
  go_ret
  exact ⟨ret_bool HR.out, hb⟩
end Go.Proofs.Ytmfhfebakdkkdaa
