/- The program's runs: RunTo, RunScore. (Round B) -/
import Derived.Test.YtmfhfebakdkkdaaImpM
namespace Go.Proofs.Ytmfhfebakdkkdaa
open Go.ChangeShapes Go.WideShapes Go.ChangeAt Go.RowKit
set_option maxRecDepth 100000 in
set_option maxHeartbeats 2000000 in
theorem implStates_no (l : Lev) (ins : List Inp) (A A' A2 : Option Addr) (c c' c2 : Nat) (w : World) (h : Sl w 4 encBx A l.walls.length l.walls) (hg : Sl w 4 encBx A' l.gates.length l.gates) (e : A = none → c = 0) (e' : A' = none → c' = 0) (hn1 : (l.walls.length : Nat) ≤ 9223372036854775807) (hn2 : (l.gates.length : Nat) ≤ 9223372036854775807) (hs : Sl w 3 encInp A2 ins.length ins) (hn3 : (ins.length : Nat) ≤ 9223372036854775807) (hr : runOk l ins = false) :
    Calls Try.prog 93 #[.agg #[.int .i64 l.id, .int .i64 l.ticks, .int .i64 l.start.x, .int .i64 l.start.y, .slice A l.walls.length c, .slice A' l.gates.length c', .int .i64 l.fin.lo.x, .int .i64 l.fin.lo.y, .int .i64 l.fin.hi.x, .int .i64 l.fin.hi.y, .int .i64 l.bans], .slice A2 ins.length c2] w fun e w' => e = .returned (.tuple #[.slice none 0 0, .bool false]) ∧ Below w.heap.size w w' := by
  cases hl : levOk l
  · go_enter Try.func93, Try.ntmps93
    go_wp2_with fail
    refine (implLevelValid_any l A A' c c' _ (h.below (by (repeat (first | (with_reducible assumption) | (with_reducible exact Below.refl _ _) | (with_reducible refine below_alloc ?_ _) | (with_reducible refine below_setCell ?_ ?_ _; (simp <;> omega)) | (with_reducible refine below_drew ?_) | (with_reducible refine below_drewN ?_ _) | (with_reducible refine below_after ?_ (by assumption)))))) (hg.below (by (repeat (first | (with_reducible assumption) | (with_reducible exact Below.refl _ _) | (with_reducible refine below_alloc ?_ _) | (with_reducible refine below_setCell ?_ ?_ _; (simp <;> omega)) | (with_reducible refine below_drew ?_) | (with_reducible refine below_drewN ?_ _) | (with_reducible refine below_after ?_ (by assumption)))))) e e' hn1 hn2).mono ?_
    rw [hl]
    rintro e w1 ⟨rfl, hb1⟩
    go_wp2
    refine bodyPost_ret (v := .tuple #[.slice none 0 0, .bool false]) (by simp [results, Try.results93, go_sem]) rfl ⟨rfl, by (repeat (first | (with_reducible assumption) | (with_reducible exact Below.refl _ _) | (with_reducible refine below_alloc ?_ _) | (with_reducible refine below_setCell ?_ ?_ _; (simp <;> omega)) | (with_reducible refine below_drew ?_) | (with_reducible refine below_drewN ?_ _) | (with_reducible refine below_after ?_ (by assumption))))⟩
  · have hlg : 0 ≤ legal l ins := by
      have : ¬ (legal l ins < 0) := fun h => by have := runOk_iff.2 ⟨hl, h⟩; rw [hr] at this; cases this
      omega
    go_enter Try.func93, Try.ntmps93
    go_wp2_with fail
    refine (implLevelValid_any l A A' c c' _ (h.below (by (repeat (first | (with_reducible assumption) | (with_reducible exact Below.refl _ _) | (with_reducible refine below_alloc ?_ _) | (with_reducible refine below_setCell ?_ ?_ _; (simp <;> omega)) | (with_reducible refine below_drew ?_) | (with_reducible refine below_drewN ?_ _) | (with_reducible refine below_after ?_ (by assumption)))))) (hg.below (by (repeat (first | (with_reducible assumption) | (with_reducible exact Below.refl _ _) | (with_reducible refine below_alloc ?_ _) | (with_reducible refine below_setCell ?_ ?_ _; (simp <;> omega)) | (with_reducible refine below_drew ?_) | (with_reducible refine below_drewN ?_ _) | (with_reducible refine below_after ?_ (by assumption)))))) e e' hn1 hn2).mono ?_
    rw [hl]
    rintro e w1 ⟨rfl, hb1⟩
    have L1 : Bk w1 w.heap.size 29 #[.int .i64 l.id, .int .i64 l.ticks, .int .i64 l.start.x, .int .i64 l.start.y, .slice A l.walls.length c, .slice A' l.gates.length c', .int .i64 l.fin.lo.x, .int .i64 l.fin.lo.y, .int .i64 l.fin.hi.x, .int .i64 l.fin.hi.y, .int .i64 l.bans] := Bk.later (by (repeat (first | (with_reducible assumption) | (with_reducible exact Bk.new _ _ _ (by simp; done)) | (with_reducible refine Bk.alloc ?_ _) | (with_reducible refine Bk.drew ?_) | (with_reducible refine Bk.drewN ?_ _) | (with_reducible apply Bk.set') | (with_reducible refine Bk.far ?_ (by first | omega | (simp; done) | (simp; omega)) _) | (with_reducible refine Bk.later ?_ (by assumption)) | (with_reducible refine Bk.grown ?_ (by assumption) (by first | omega | (simp; done) | (simp; omega))) | (exact SetTo.mk (by with_reducible rfl)) | (exact SetTo.mk (by simp))))) hb1
    have B1 : Below w.heap.size w w1 := by (repeat (first | (with_reducible assumption) | (with_reducible exact Below.refl _ _) | (with_reducible refine below_alloc ?_ _) | (with_reducible refine below_setCell ?_ ?_ _; (simp <;> omega)) | (with_reducible refine below_drew ?_) | (with_reducible refine below_drewN ?_ _) | (with_reducible refine below_after ?_ (by assumption))))
    clear hb1
    obtain ⟨⟨l0, l1, l2, l3, l4, l5, l6, l7, l8, l9, l10⟩, lf⟩ := L1.c11
    go_wp2_with fail
    refine (implLegal_any l ins A A' A2 c c' c2 _ (h.below (by (repeat (first | (with_reducible assumption) | (with_reducible exact Below.refl _ _) | (with_reducible refine below_alloc ?_ _) | (with_reducible refine below_setCell ?_ ?_ _; (simp <;> omega)) | (with_reducible refine below_drew ?_) | (with_reducible refine below_drewN ?_ _) | (with_reducible refine below_after ?_ (by assumption)))))) (hg.below (by (repeat (first | (with_reducible assumption) | (with_reducible exact Below.refl _ _) | (with_reducible refine below_alloc ?_ _) | (with_reducible refine below_setCell ?_ ?_ _; (simp <;> omega)) | (with_reducible refine below_drew ?_) | (with_reducible refine below_drewN ?_ _) | (with_reducible refine below_after ?_ (by assumption)))))) e e' hn1 hn2 hl (hs.below (by (repeat (first | (with_reducible assumption) | (with_reducible exact Below.refl _ _) | (with_reducible refine below_alloc ?_ _) | (with_reducible refine below_setCell ?_ ?_ _; (simp <;> omega)) | (with_reducible refine below_drew ?_) | (with_reducible refine below_drewN ?_ _) | (with_reducible refine below_after ?_ (by assumption)))))) hn3).mono ?_
    rintro e w2 ⟨rfl, hb2⟩
    go_wp2
    refine bodyPost_ret (v := .tuple #[.slice none 0 0, .bool false]) (by simp [results, Try.results93, go_sem]) rfl ⟨rfl, by (repeat (first | (with_reducible assumption) | (with_reducible exact Below.refl _ _) | (with_reducible refine below_alloc ?_ _) | (with_reducible refine below_setCell ?_ ?_ _; (simp <;> omega)) | (with_reducible refine below_drew ?_) | (with_reducible refine below_drewN ?_ _) | (with_reducible refine below_after ?_ (by assumption))))⟩
def zeroSt : St := ⟨0, ⟨0, 0⟩, ⟨0, 0⟩, 0, 0, false, false⟩
def toOk (l : Lev) (ins : List Inp) (n : Int) : Bool := runOk l ins && inR 0 ins.length n
def toR (l : Lev) (ins : List Inp) (n : Int) : St := if toOk l ins n then runTo l ins n.toNat else zeroSt
set_option maxRecDepth 100000 in
set_option maxHeartbeats 2000000 in
theorem implRunTo_any (l : Lev) (ins : List Inp) (n : Int) (A A' A2 : Option Addr) (c c' c2 : Nat) (w : World) (h : Sl w 4 encBx A l.walls.length l.walls) (hg : Sl w 4 encBx A' l.gates.length l.gates) (e : A = none → c = 0) (e' : A' = none → c' = 0) (hn1 : (l.walls.length : Nat) ≤ 9223372036854775807) (hn2 : (l.gates.length : Nat) ≤ 9223372036854775807) (hs : Sl w 3 encInp A2 ins.length ins) (hn3 : (ins.length : Nat) ≤ 9223372036854775807) :
    Calls Try.prog 40 #[.agg #[.int .i64 l.id, .int .i64 l.ticks, .int .i64 l.start.x, .int .i64 l.start.y, .slice A l.walls.length c, .slice A' l.gates.length c', .int .i64 l.fin.lo.x, .int .i64 l.fin.lo.y, .int .i64 l.fin.hi.x, .int .i64 l.fin.hi.y, .int .i64 l.bans], .slice A2 ins.length c2, .int .i64 n] w fun e w' => e = .returned (.tuple #[.agg #[.int .i64 (toR l ins n).t, .int .i64 (toR l ins n).p.x, .int .i64 (toR l ins n).p.y, .int .i64 (toR l ins n).f.x, .int .i64 (toR l ins n).f.y, .int .i64 (toR l ins n).d, .int .i64 (toR l ins n).g, .bool (toR l ins n).dn, .bool (toR l ins n).ov], .bool (toOk l ins n)]) ∧ Below w.heap.size w w' := by
  rcases Bool.eq_false_or_eq_true (runOk l ins) with hr | hr
  · rcases Bool.eq_false_or_eq_true (inR 0 ins.length n) with hi | hi
    · obtain ⟨i0, i1⟩ := inR_iff.1 hi
      obtain ⟨k, rfl⟩ := Int.eq_ofNat_of_zero_le i0
      have hok : toOk l ins (k : Int) = true := by unfold toOk; rw [hr, hi]; rfl
      have hto : toR l ins (k : Int) = runTo l ins k := by unfold toR; rw [hok, if_pos rfl, Int.toNat_natCast]
      rw [hok, hto]
      have hgt := statesTo_get l ins (show k < ins.length + 1 by omega)
      have HGT := Lib.hid hgt
      clear hok hto hgt
      obtain ⟨v, hv⟩ : ∃ v, runTo l ins k = v := ⟨_, rfl⟩
      rw [hv]
      have HV := Lib.hid hv
      clear hv
      go_enter Try.func40, Try.ntmps40
      go_wp2_with fail
      refine (implStates_yes l ins A A' A2 c c' c2 _ (h.below (by (repeat (first | (with_reducible assumption) | (with_reducible exact Below.refl _ _) | (with_reducible refine below_alloc ?_ _) | (with_reducible refine below_setCell ?_ ?_ _; (simp <;> omega)) | (with_reducible refine below_drew ?_) | (with_reducible refine below_drewN ?_ _) | (with_reducible refine below_after ?_ (by assumption)))))) (hg.below (by (repeat (first | (with_reducible assumption) | (with_reducible exact Below.refl _ _) | (with_reducible refine below_alloc ?_ _) | (with_reducible refine below_setCell ?_ ?_ _; (simp <;> omega)) | (with_reducible refine below_drew ?_) | (with_reducible refine below_drewN ?_ _) | (with_reducible refine below_after ?_ (by assumption)))))) e e' (hs.below (by (repeat (first | (with_reducible assumption) | (with_reducible exact Below.refl _ _) | (with_reducible refine below_alloc ?_ _) | (with_reducible refine below_setCell ?_ ?_ _; (simp <;> omega)) | (with_reducible refine below_drew ?_) | (with_reducible refine below_drewN ?_ _) | (with_reducible refine below_after ?_ (by assumption)))))) hr).mono ?_
      rintro e w1 ⟨A4, c4, rfl, hO, hb1⟩
      have R1 : Bk w1 (w.heap.size + 1) 31 #[.int .i64 0, .int .i64 0, .int .i64 0, .int .i64 0, .int .i64 0, .int .i64 0, .int .i64 0, .bool false, .bool false] := Bk.later (by (repeat (first | (with_reducible assumption) | (with_reducible exact Bk.new _ _ _ (by simp; done)) | (with_reducible refine Bk.alloc ?_ _) | (with_reducible refine Bk.drew ?_) | (with_reducible refine Bk.drewN ?_ _) | (with_reducible apply Bk.set') | (with_reducible refine Bk.far ?_ (by first | omega | (simp; done) | (simp; omega)) _) | (with_reducible refine Bk.later ?_ (by assumption)) | (with_reducible refine Bk.grown ?_ (by assumption) (by first | omega | (simp; done) | (simp; omega))) | (exact SetTo.mk (by with_reducible rfl)) | (exact SetTo.mk (by simp))))) hb1
      have B1 : Below w.heap.size w w1 := by (repeat (first | (with_reducible assumption) | (with_reducible exact Below.refl _ _) | (with_reducible refine below_alloc ?_ _) | (with_reducible refine below_setCell ?_ ?_ _; (simp <;> omega)) | (with_reducible refine below_drew ?_) | (with_reducible refine below_drewN ?_ _) | (with_reducible refine below_after ?_ (by assumption))))
      clear hb1
      have hsl := hO.sl encSt_len
      obtain ⟨b, off, x, rfl, hbl, hx, hc⟩ := hsl.at_ (k := k) (by omega)
      rw [HGT.out, HV.out] at hx
      injection hx with hx
      subst hx
      have q0 : w1.cell? ⟨b, off + k * 9, none⟩ = some (.int .i64 v.t) := hc 0 _ rfl
      have q1 : w1.cell? ⟨b, off + k * 9 + 1, none⟩ = some (.int .i64 v.p.x) := hc 1 _ rfl
      have q2 : w1.cell? ⟨b, off + k * 9 + 2, none⟩ = some (.int .i64 v.p.y) := hc 2 _ rfl
      have q3 : w1.cell? ⟨b, off + k * 9 + 3, none⟩ = some (.int .i64 v.f.x) := hc 3 _ rfl
      have q4 : w1.cell? ⟨b, off + k * 9 + 4, none⟩ = some (.int .i64 v.f.y) := hc 4 _ rfl
      have q5 : w1.cell? ⟨b, off + k * 9 + 5, none⟩ = some (.int .i64 v.d) := hc 5 _ rfl
      have q6 : w1.cell? ⟨b, off + k * 9 + 6, none⟩ = some (.int .i64 v.g) := hc 6 _ rfl
      have q7 : w1.cell? ⟨b, off + k * 9 + 7, none⟩ = some (.bool v.dn) := hc 7 _ rfl
      have q8 : w1.cell? ⟨b, off + k * 9 + 8, none⟩ = some (.bool v.ov) := hc 8 _ rfl
      have zR := R1.lt
      clear hc hO hsl
      obtain ⟨⟨r0, r1, r2, r3, r4, r5, r6, r7, r8⟩, rf⟩ := R1.c9
      have hkl : (k : Int) < (ins.length : Int) + 1 := by omega
      go_wp2_with (go_at_call 94; refine (inRange_r _ _ _ _).mono ?_; rw [hi]; rintro e w0 ⟨rfl, rfl⟩)
      refine bodyPost_ret (v := .tuple #[.agg #[.int .i64 v.t, .int .i64 v.p.x, .int .i64 v.p.y, .int .i64 v.f.x, .int .i64 v.f.y, .int .i64 v.d, .int .i64 v.g, .bool v.dn, .bool v.ov], .bool true]) (by simp [results, Try.results40, go_sem, *]) rfl ⟨rfl, ?_⟩
      (repeat (first | (with_reducible assumption) | (with_reducible exact Below.refl _ _) | (with_reducible refine below_alloc ?_ _) | (with_reducible refine below_setCell ?_ ?_ _; (simp <;> omega)) | (with_reducible refine below_drew ?_) | (with_reducible refine below_drewN ?_ _) | (with_reducible refine below_after ?_ (by assumption))))
    · have hok : toOk l ins n = false := by unfold toOk; rw [hr, hi]; rfl
      have hto : toR l ins n = zeroSt := by unfold toR; rw [hok]; rfl
      rw [hok, hto]
      clear hok hto
      go_enter Try.func40, Try.ntmps40
      go_wp2_with fail
      refine (implStates_yes l ins A A' A2 c c' c2 _ (h.below (by (repeat (first | (with_reducible assumption) | (with_reducible exact Below.refl _ _) | (with_reducible refine below_alloc ?_ _) | (with_reducible refine below_setCell ?_ ?_ _; (simp <;> omega)) | (with_reducible refine below_drew ?_) | (with_reducible refine below_drewN ?_ _) | (with_reducible refine below_after ?_ (by assumption)))))) (hg.below (by (repeat (first | (with_reducible assumption) | (with_reducible exact Below.refl _ _) | (with_reducible refine below_alloc ?_ _) | (with_reducible refine below_setCell ?_ ?_ _; (simp <;> omega)) | (with_reducible refine below_drew ?_) | (with_reducible refine below_drewN ?_ _) | (with_reducible refine below_after ?_ (by assumption)))))) e e' (hs.below (by (repeat (first | (with_reducible assumption) | (with_reducible exact Below.refl _ _) | (with_reducible refine below_alloc ?_ _) | (with_reducible refine below_setCell ?_ ?_ _; (simp <;> omega)) | (with_reducible refine below_drew ?_) | (with_reducible refine below_drewN ?_ _) | (with_reducible refine below_after ?_ (by assumption)))))) hr).mono ?_
      rintro e w1 ⟨A4, c4, rfl, hO, hb1⟩
      have R1 : Bk w1 (w.heap.size + 1) 31 #[.int .i64 0, .int .i64 0, .int .i64 0, .int .i64 0, .int .i64 0, .int .i64 0, .int .i64 0, .bool false, .bool false] := Bk.later (by (repeat (first | (with_reducible assumption) | (with_reducible exact Bk.new _ _ _ (by simp; done)) | (with_reducible refine Bk.alloc ?_ _) | (with_reducible refine Bk.drew ?_) | (with_reducible refine Bk.drewN ?_ _) | (with_reducible apply Bk.set') | (with_reducible refine Bk.far ?_ (by first | omega | (simp; done) | (simp; omega)) _) | (with_reducible refine Bk.later ?_ (by assumption)) | (with_reducible refine Bk.grown ?_ (by assumption) (by first | omega | (simp; done) | (simp; omega))) | (exact SetTo.mk (by with_reducible rfl)) | (exact SetTo.mk (by simp))))) hb1
      have B1 : Below w.heap.size w w1 := by (repeat (first | (with_reducible assumption) | (with_reducible exact Below.refl _ _) | (with_reducible refine below_alloc ?_ _) | (with_reducible refine below_setCell ?_ ?_ _; (simp <;> omega)) | (with_reducible refine below_drew ?_) | (with_reducible refine below_drewN ?_ _) | (with_reducible refine below_after ?_ (by assumption))))
      clear hb1 hO
      obtain ⟨⟨r0, r1, r2, r3, r4, r5, r6, r7, r8⟩, rf⟩ := R1.c9
      go_wp2_with (go_at_call 94; refine (inRange_r _ _ _ _).mono ?_; rw [hi]; rintro e w0 ⟨rfl, rfl⟩)
      refine bodyPost_ret (v := .tuple #[.agg #[.int .i64 zeroSt.t, .int .i64 zeroSt.p.x, .int .i64 zeroSt.p.y, .int .i64 zeroSt.f.x, .int .i64 zeroSt.f.y, .int .i64 zeroSt.d, .int .i64 zeroSt.g, .bool zeroSt.dn, .bool zeroSt.ov], .bool false]) (by simp [results, Try.results40, go_sem, zeroSt, *]) rfl ⟨rfl, ?_⟩
      (repeat (first | (with_reducible assumption) | (with_reducible exact Below.refl _ _) | (with_reducible refine below_alloc ?_ _) | (with_reducible refine below_setCell ?_ ?_ _; (simp <;> omega)) | (with_reducible refine below_drew ?_) | (with_reducible refine below_drewN ?_ _) | (with_reducible refine below_after ?_ (by assumption))))
  · have hok : toOk l ins n = false := by unfold toOk; rw [hr]; rfl
    have hto : toR l ins n = zeroSt := by unfold toR; rw [hok]; rfl
    rw [hok, hto]
    clear hok hto
    go_enter Try.func40, Try.ntmps40
    go_wp2_with fail
    refine (implStates_no l ins A A' A2 c c' c2 _ (h.below (by (repeat (first | (with_reducible assumption) | (with_reducible exact Below.refl _ _) | (with_reducible refine below_alloc ?_ _) | (with_reducible refine below_setCell ?_ ?_ _; (simp <;> omega)) | (with_reducible refine below_drew ?_) | (with_reducible refine below_drewN ?_ _) | (with_reducible refine below_after ?_ (by assumption)))))) (hg.below (by (repeat (first | (with_reducible assumption) | (with_reducible exact Below.refl _ _) | (with_reducible refine below_alloc ?_ _) | (with_reducible refine below_setCell ?_ ?_ _; (simp <;> omega)) | (with_reducible refine below_drew ?_) | (with_reducible refine below_drewN ?_ _) | (with_reducible refine below_after ?_ (by assumption)))))) e e' hn1 hn2 (hs.below (by (repeat (first | (with_reducible assumption) | (with_reducible exact Below.refl _ _) | (with_reducible refine below_alloc ?_ _) | (with_reducible refine below_setCell ?_ ?_ _; (simp <;> omega)) | (with_reducible refine below_drew ?_) | (with_reducible refine below_drewN ?_ _) | (with_reducible refine below_after ?_ (by assumption)))))) hn3 hr).mono ?_
    rintro e w1 ⟨rfl, hb1⟩
    have R1 : Bk w1 (w.heap.size + 1) 31 #[.int .i64 0, .int .i64 0, .int .i64 0, .int .i64 0, .int .i64 0, .int .i64 0, .int .i64 0, .bool false, .bool false] := Bk.later (by (repeat (first | (with_reducible assumption) | (with_reducible exact Bk.new _ _ _ (by simp; done)) | (with_reducible refine Bk.alloc ?_ _) | (with_reducible refine Bk.drew ?_) | (with_reducible refine Bk.drewN ?_ _) | (with_reducible apply Bk.set') | (with_reducible refine Bk.far ?_ (by first | omega | (simp; done) | (simp; omega)) _) | (with_reducible refine Bk.later ?_ (by assumption)) | (with_reducible refine Bk.grown ?_ (by assumption) (by first | omega | (simp; done) | (simp; omega))) | (exact SetTo.mk (by with_reducible rfl)) | (exact SetTo.mk (by simp))))) hb1
    have B1 : Below w.heap.size w w1 := by (repeat (first | (with_reducible assumption) | (with_reducible exact Below.refl _ _) | (with_reducible refine below_alloc ?_ _) | (with_reducible refine below_setCell ?_ ?_ _; (simp <;> omega)) | (with_reducible refine below_drew ?_) | (with_reducible refine below_drewN ?_ _) | (with_reducible refine below_after ?_ (by assumption))))
    clear hb1
    obtain ⟨⟨r0, r1, r2, r3, r4, r5, r6, r7, r8⟩, rf⟩ := R1.c9
    go_wp2
    refine bodyPost_ret (v := .tuple #[.agg #[.int .i64 zeroSt.t, .int .i64 zeroSt.p.x, .int .i64 zeroSt.p.y, .int .i64 zeroSt.f.x, .int .i64 zeroSt.f.y, .int .i64 zeroSt.d, .int .i64 zeroSt.g, .bool zeroSt.dn, .bool zeroSt.ov], .bool false]) (by simp [results, Try.results40, go_sem, zeroSt, *]) rfl ⟨rfl, ?_⟩
    (repeat (first | (with_reducible assumption) | (with_reducible exact Below.refl _ _) | (with_reducible refine below_alloc ?_ _) | (with_reducible refine below_setCell ?_ ?_ _; (simp <;> omega)) | (with_reducible refine below_drew ?_) | (with_reducible refine below_drewN ?_ _) | (with_reducible refine below_after ?_ (by assumption))))
end Go.Proofs.Ytmfhfebakdkkdaa
