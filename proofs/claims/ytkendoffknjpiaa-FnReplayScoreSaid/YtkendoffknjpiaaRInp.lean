/- ReplayInputs: the plain function; the reference's by its contract. -/
import Derived.Test.YtkendoffknjpiaaInps
import Derived.Test.YtkendoffknjpiaaAppL
import Derived.Test.YtkendoffknjpiaaReps
import Derived.Test.YtkendoffknjpiaaWk
import Derived.Deep.DeepMust
namespace Go.Proofs.Ytkendoffknjpiaa
open Go.ChangeShapes Go.WideShapes Go.ChangeAt Go.RowKit
def outTo (ps : List Prt) (k : Nat) : List Inp := (ps.take k).flatMap fun p => List.replicate p.m.toNat (inpOf p.c)
/-- Is part number k wrong? -/
def badP (ps : List Prt) (k : Nat) : Bool :=
  match ps[k]? with
  | none => false
  | some p => !codeOk p.c || (!inR 1 (60 - (outTo ps k).length) p.m || (decide (0 < k) && (match ps[k - 1]? with | some q => q.c == p.c | none => false)))
def goodParts (ps : List Prt) : Bool := (List.range ps.length).all fun k => !badP ps k
def inputsOf (ps : List Prt) : List Inp := if goodParts ps then outTo ps ps.length else []
theorem goodParts_iff {ps : List Prt} : goodParts ps = true ↔ ∀ j, j < ps.length → badP ps j = false := by
  simp [goodParts]
theorem goodParts_no {ps : List Prt} {k : Nat} (hk : k < ps.length) (h : badP ps k = true) : goodParts ps = false := by
  cases e : goodParts ps with
  | false => rfl
  | true => rw [goodParts_iff.1 e k hk] at h; cases h
theorem outTo_succ {ps : List Prt} {k : Nat} {p : Prt} (hp : ps[k]? = some p) : outTo ps (k + 1) = outTo ps k ++ List.replicate p.m.toNat (inpOf p.c) := by
  unfold outTo
  rw [List.take_add_one, hp, List.flatMap_append]
  simp
theorem badP_eq {ps : List Prt} {k : Nat} {p : Prt} (hp : ps[k]? = some p) : badP ps k = (!codeOk p.c || (!inR 1 (60 - (outTo ps k).length) p.m || (decide (0 < k) && (match ps[k - 1]? with | some q => q.c == p.c | none => false)))) := by
  unfold badP; rw [hp]
theorem outTo_len {ps : List Prt} {k : Nat} (h : ∀ j, j < k → badP ps j = false) (hk : k ≤ ps.length) : (outTo ps k).length ≤ 60 := by
  cases k with
  | zero => simp [outTo]
  | succ k =>
    have hx : ps[k]? = some (ps[k]'(by omega)) := List.getElem?_eq_getElem _
    have hb := h k (by omega)
    rw [badP_eq hx] at hb
    simp only [Bool.or_eq_false_iff, Bool.not_eq_false', inR_iff] at hb
    rw [outTo_succ hx, List.length_append, List.length_replicate]
    omega
def RetOwnB {α : Type} (T : TypeId) (sz : Nat) (enc : α → List Value) (l : List α) (b : Bool) (w : World) (e : Ending) (w' : World) : Prop :=
  ∃ A c, e = .returned (.tuple #[.slice A l.length c, .bool b]) ∧ l.length ≤ c ∧ Own w' w.heap.size T sz enc (.slice A l.length c) l ∧ Below w.heap.size w w'
theorem prt_at {w : World} {b off k : Nat} {x : Prt} (hc : ∀ j v, (encPrt x)[j]? = some v → w.cell? ⟨b, off + k * 2 + j, none⟩ = some v) : w.cell? ⟨b, off + k * 2, none⟩ = some (.int .i64 x.c) ∧ w.cell? ⟨b, off + k * 2 + 1, none⟩ = some (.int .i64 x.m) := ⟨hc 0 _ rfl, hc 1 _ rfl⟩
theorem own_nil_inp (w : World) (B N : Nat) (T : TypeId) (hB : B ≤ w.heap.size) (hN : w.heap.size = N) : Own (w.alloc (.cells #[] T)) B T 3 encInp (.slice (some ⟨N, 0, none⟩) 0 0) [] := by
  subst hN
  exact World.ownsRow_lit (base := B) (size := 3) w #[] 0 hB (by decide) rfl
theorem Own.drewN {α : Type} {w : World} {B : Nat} {T : TypeId} {sz : Nat} {enc : α → List Value} {v : Value} {l : List α} (h : Own w B T sz enc v l) (n : Nat) : Own (w.drewN n) B T sz enc v l := h
theorem Try.infoInp : (Try.prog.info? 60).map (fun i => (i.zero, i.size, i.bytes)) = some (some (.agg #[.int .i64 0, .int .i64 0, .bool false]), 3, 24) := by kernel_rfl
set_option maxRecDepth 100000 in
set_option maxHeartbeats 1000000 in
theorem specReplayInputs_any (A : Option Addr) (c : Nat) (ps : List Prt) (w : World) (h : Sl w 2 encPrt A ps.length ps) (hn : ps.length ≤ 9000000000000000000) :
    Calls Try.prog 27 #[.slice A ps.length c] w (RetOwnB 60 3 encInp (inputsOf ps) (goodParts ps) w) := by
  obtain ⟨i0, hi, hz0, hz1, hz2⟩ := info_parts Try.infoInp
  go_enter Try.func27, Try.ntmps27
  go_wp2
  go_loopw [4, 5] (fun v i wr => ∃ k : Nat, k ≤ ps.length ∧ i = .int .i64 k ∧ (∀ j, j < k → badP ps j = false) ∧ Own wr w.heap.size 60 3 encInp v (outTo ps k) ∧ Below w.heap.size w wr) (fun _ i _ => ps.length - (intOf i).toNat)
  case atStart => exact ⟨0, Nat.zero_le _, rfl, fun j hj => by omega, own_nil_inp _ _ _ _ (by simp) (by simp), by (repeat (first | (with_reducible exact Below.refl _ _) | (with_reducible refine below_alloc ?_ _) | (with_reducible refine below_setCell ?_ ?_ _; (simp <;> omega)) | (with_reducible refine below_drew ?_) | (with_reducible refine below_drewN ?_ _) | (with_reducible refine below_after ?_ (by assumption))))⟩
  case round =>
    obtain ⟨k, hk, rfl, hgood, ho, hb⟩ := hrel
    have hol := outTo_len hgood hk
    obtain ⟨Av, cv, rfl, hcv, _⟩ := ho.form
    by_cases hlt : k < ps.length
    · obtain ⟨b, off, x, rfl, hbw, hx, hcw⟩ := h.at_ hlt
      obtain ⟨w0q, w1q⟩ := prt_at hcw
      have q0 : wr.cell? ⟨b, off + k * 2, none⟩ = some (.int .i64 x.c) := (hb.cell (p := ⟨b, off + k * 2, none⟩) hbw).trans w0q
      have q1 : wr.cell? ⟨b, off + k * 2 + 1, none⟩ = some (.int .i64 x.m) := (hb.cell (p := ⟨b, off + k * 2 + 1, none⟩) hbw).trans w1q
      have hbl : b < wr.heap.size := Nat.lt_of_lt_of_le hbw hb.size
      have HB := Lib.hid (badP_eq hx)
      have HO := Lib.hid (outTo_succ hx)
      have HG := Lib.hid hgood
      have Hx := Lib.hid hx
      clear hgood hcw hx
      obtain ⟨xc, xm⟩ := x
      simp only at q0 q1 w0q w1q HB HO
      have e1 : IntKind.i64.wrap (60 - ((outTo ps k).length : Int)) = 60 - ((outTo ps k).length : Int) := IntWalk.i64_in _ (by omega)
      cases hco : codeOk xc
      · have hbad : Hid (goodParts ps = false) := Lib.hid (goodParts_no hlt (by rw [HB.out, hco]; rfl))
        have hin : Hid (inputsOf ps = []) := Lib.hid (by unfold inputsOf; rw [hbad.out]; rfl)
        rw [hbad.out, hin.out]
        go_wp2_with fail
        refine (specInputOf_any xc _).mono ?_
        rintro e w1 ⟨rfl, hb1⟩
        have hd1 : Below w.heap.size w w1 := by (repeat (first | (with_reducible exact Below.refl _ _) | (with_reducible refine below_alloc ?_ _) | (with_reducible refine below_setCell ?_ ?_ _; (simp <;> omega)) | (with_reducible refine below_drew ?_) | (with_reducible refine below_drewN ?_ _) | (with_reducible refine below_after ?_ (by assumption))))
        clear hb1
        go_wp2
        go_quiet (fail)
        go_wp2
        have hsz := hd1.size
        exact bodyPost_ret (v := .tuple #[.slice (some ⟨w1.heap.size + 1, 0, none⟩) 0 0, .bool false]) (by simp [results, Try.results27, go_sem]) rfl ⟨some ⟨w1.heap.size + 1, 0, none⟩, 0, rfl, Nat.le_refl _, own_nil_inp _ _ _ _ (by simp; omega) (by simp), by (repeat (first | (with_reducible exact Below.refl _ _) | (with_reducible refine below_alloc ?_ _) | (with_reducible refine below_setCell ?_ ?_ _; (simp <;> omega)) | (with_reducible refine below_drew ?_) | (with_reducible refine below_drewN ?_ _) | (with_reducible refine below_after ?_ (by assumption))))⟩
      · cases hrg : inR 1 (60 - (outTo ps k).length) xm
        · have hz : True := trivial
          have hbad : Hid (goodParts ps = false) := Lib.hid (goodParts_no hlt (by rw [HB.out, hco, hrg]; rfl))
          have hin : Hid (inputsOf ps = []) := Lib.hid (by unfold inputsOf; rw [hbad.out]; rfl)
          rw [hbad.out, hin.out]
          go_wp2_with fail
          refine (specInputOf_any xc _).mono ?_
          rintro e w1 ⟨rfl, hb1⟩
          have hd1 : Below w.heap.size w w1 := by (repeat (first | (with_reducible exact Below.refl _ _) | (with_reducible refine below_alloc ?_ _) | (with_reducible refine below_setCell ?_ ?_ _; (simp <;> omega)) | (with_reducible refine below_drew ?_) | (with_reducible refine below_drewN ?_ _) | (with_reducible refine below_after ?_ (by assumption))))
          have ho1 := ho.later hb1
          have hlts := ho.lt
          have hsz1 := hb1.size
          have r0 : w1.cell? ⟨b, off + k * 2, none⟩ = some (.int .i64 xc) := (hb1.cell (p := ⟨b, off + k * 2, none⟩) hbl).trans q0
          have r1 : w1.cell? ⟨b, off + k * 2 + 1, none⟩ = some (.int .i64 xm) := (hb1.cell (p := ⟨b, off + k * 2 + 1, none⟩) hbl).trans q1
          have hbl1 : b < w1.heap.size := Nat.lt_of_lt_of_le hbl hb1.size
          clear hb1 q0 q1
          go_wp2
          go_quiet ((go_at_call 54; exact Calls.quiet_of_same (stl (l6In_r _ _ _ _))))
          go_wp2
          have hsz := hd1.size
          exact bodyPost_ret (v := .tuple #[.slice (some ⟨w1.heap.size + 1, 0, none⟩) 0 0, .bool false]) (by simp [results, Try.results27, go_sem]) rfl ⟨some ⟨w1.heap.size + 1, 0, none⟩, 0, rfl, Nat.le_refl _, own_nil_inp _ _ _ _ (by simp; omega) (by simp), by (repeat (first | (with_reducible exact Below.refl _ _) | (with_reducible refine below_alloc ?_ _) | (with_reducible refine below_setCell ?_ ?_ _; (simp <;> omega)) | (with_reducible refine below_drew ?_) | (with_reducible refine below_drewN ?_ _) | (with_reducible refine below_after ?_ (by assumption))))⟩
        · rcases Nat.eq_zero_or_pos k with hk0 | hk0
          · have hk1 : decide ((0 : Int) < (k : Int)) = false := by simp; omega
            have hk2 : decide (0 < k) = false := by simp; omega
            have HK0 := Lib.hid hk0
            clear hk0
            have hgo : Hid (badP ps k = false) := Lib.hid (by rw [HB.out, hco, hrg, hk2]; rfl)
            obtain ⟨hm0, hm1⟩ := inR_iff.1 hrg
            clear hrg
            have hrg : inR 1 (60 - ↑(outTo ps k).length) xm = true := inR_iff.2 ⟨hm0, hm1⟩
            go_wp2_with fail
            refine (specInputOf_any xc _).mono ?_
            rintro e w1 ⟨rfl, hb1⟩
            have hd1 : Below w.heap.size w w1 := by (repeat (first | (with_reducible exact Below.refl _ _) | (with_reducible refine below_alloc ?_ _) | (with_reducible refine below_setCell ?_ ?_ _; (simp <;> omega)) | (with_reducible refine below_drew ?_) | (with_reducible refine below_drewN ?_ _) | (with_reducible refine below_after ?_ (by assumption))))
            have ho1 := ho.later hb1
            have hlts := ho.lt
            have hsz1 := hb1.size
            have r0 : w1.cell? ⟨b, off + k * 2, none⟩ = some (.int .i64 xc) := (hb1.cell (p := ⟨b, off + k * 2, none⟩) hbl).trans q0
            have r1 : w1.cell? ⟨b, off + k * 2 + 1, none⟩ = some (.int .i64 xm) := (hb1.cell (p := ⟨b, off + k * 2 + 1, none⟩) hbl).trans q1
            have hbl1 : b < w1.heap.size := Nat.lt_of_lt_of_le hbl hb1.size
            clear hb1 q0 q1
            go_wp2
            go_quiet ((go_at_call 54; exact Calls.quiet_of_same (stl (l6In_r _ _ _ _))))
            have hX1 : Bk (w1.alloc (.cells #[.int .i64 (inpOf xc).s, .int .i64 (inpOf xc).p, .bool (inpOf xc).z] 60)) w1.heap.size 60 #[.int .i64 (inpOf xc).s, .int .i64 (inpOf xc).p, .bool (inpOf xc).z] := Bk.new _ _ _ rfl
            clear e1 hrg
            generalize inpOf xc = xi at *
            go_wp2
            go_loopw [4, 8] (fun v kk wi => ∃ j : Nat, (j : Int) ≤ xm ∧ kk = .int .i64 j ∧ Own wi w.heap.size 60 3 encInp v (outTo ps k ++ List.replicate j xi) ∧ v.ownBlock ≠ some w1.heap.size ∧ Bk wi w1.heap.size 60 #[.int .i64 xi.s, .int .i64 xi.p, .bool xi.z] ∧ Below w.heap.size w wi) (fun _ kk _ => (xm - intOf kk).toNat)
            case atStart => exact ⟨0, by omega, rfl, by rw [List.replicate_zero, List.append_nil]; exact ((ho1.alloc _).drewN _), (by intro e; have := (hlts _ e).2; omega), hX1.drewN _, by (repeat (first | (with_reducible exact Below.refl _ _) | (with_reducible refine below_alloc ?_ _) | (with_reducible refine below_setCell ?_ ?_ _; (simp <;> omega)) | (with_reducible refine below_drew ?_) | (with_reducible refine below_drewN ?_ _) | (with_reducible refine below_after ?_ (by assumption))))⟩
            case round =>
              obtain ⟨j, hj, rfl, hoj, hvn, hX, hbj⟩ := hrel
              have s1 : wr.cell? ⟨b, off + k * 2 + 1, none⟩ = some (.int .i64 xm) := (hbj.cell (p := ⟨b, off + k * 2 + 1, none⟩) hbw).trans w1q
              have hblr : b < wr.heap.size := Nat.lt_of_lt_of_le hbw hbj.size
              have hXl := hX.lt
              obtain ⟨⟨x0, x1, x2⟩, xf⟩ := hX.c3
              clear hX1 r0 r1 ho1 ho
              have hjl : (outTo ps k ++ List.replicate j xi).length ≤ 60 := by rw [List.length_append, List.length_replicate]; omega
              by_cases hjm : (j : Int) < xm
              · have hrlt := hoj.lt
                have hbs := hbj.size
                go_wp2_with (at_builtin; refine wp_appL rfl _ _ 33 rfl w.heap.size 60 i0 (.agg #[.int .i64 0, .int .i64 0, .bool false]) 3 24 Try.underlying33 hi hz0 hz1 hz2 rfl (by decide) encInp_len one_inp _ _ [xi] rfl (hoj.alloc _) _ 1 1 rfl (Sl.one _ xi _ _ rfl) (by intro e; cases e) (by unfold maxLen; omega) (by omega) (by simp; omega) ?_; intro v2 w2 ho2 hg2 hl2)
                case roundEnd =>
                  have hX2 : Bk w2 w1.heap.size 60 #[.int .i64 xi.s, .int .i64 xi.p, .bool xi.z] := (hX.alloc _).grown hg2 (Ne.symm hvn)
                  have hb2 : Below w.heap.size w w2 := (below_alloc hbj _).grown hg2 (by simp; omega) (by intro g e; exact (hrlt _ e).1)
                  have hv2 : v2.ownBlock ≠ some w1.heap.size := by
                    intro e
                    rcases hl2 with e2 | e2 <;> rw [e2] at e
                    · exact hvn e
                    · simp at e; omega
                  go_roundw
                  case rel => exact ⟨j + 1, by omega, by go_num, by rw [List.replicate_succ', ← List.append_assoc]; exact ho2, hv2, hX2, hb2⟩
                  case measure => simp [intOf]; omega
              · have hjx : xm.toNat = j := by omega
                clear x0 x1 x2 xf
                go_wp2
                case roundEnd =>
                  go_roundw
                  case rel => exact ⟨k + 1, by omega, by go_num, good_succ HG.out hgo.out, by rw [HO.out, hjx]; exact hoj, hbj⟩
                  case measure => simp [intOf]; omega
          · obtain ⟨b2, off2, y, hA2, hbl2, hy, hcy⟩ := (h.below hb).at_ (k := k - 1) (by omega)
            simp only [Option.some.injEq, Addr.mk.injEq, and_true] at hA2
            obtain ⟨rfl, rfl⟩ := hA2
            obtain ⟨y0, y1⟩ := prt_at hcy
            obtain ⟨yc, ym⟩ := y
            simp only at y0 y1
            have hk1 : decide (0 < k) = true := by simpa using hk0
            have hk2 : (0 : Int) < (k : Int) := by omega
            have hk3 : IntKind.i64.wrap ((k : Int) - 1) = (k : Int) - 1 := IntWalk.i64_in _ (by omega)
            have hk4 : ((k : Int) - 1).toNat = k - 1 := by omega
            have hk5 : (0 : Int) ≤ (k : Int) - 1 := by omega
            have hk6 : (k : Int) - 1 < (ps.length : Int) := by omega
            have hk7 : 1 ≤ k := hk0
            have HY := Lib.hid hy
            clear hy hcy
            cases hq : (yc == xc)
            · have hz : True := trivial
              have hgo : Hid (badP ps k = false) := Lib.hid (by rw [HB.out, hco, hrg, hk1, HY.out]; simp only; rw [hq]; rfl)
              obtain ⟨hm0, hm1⟩ := inR_iff.1 hrg
              clear hrg
              have hrg : inR 1 (60 - ↑(outTo ps k).length) xm = true := inR_iff.2 ⟨hm0, hm1⟩
              go_wp2_with fail
              refine (specInputOf_any xc _).mono ?_
              rintro e w1 ⟨rfl, hb1⟩
              have hd1 : Below w.heap.size w w1 := by (repeat (first | (with_reducible exact Below.refl _ _) | (with_reducible refine below_alloc ?_ _) | (with_reducible refine below_setCell ?_ ?_ _; (simp <;> omega)) | (with_reducible refine below_drew ?_) | (with_reducible refine below_drewN ?_ _) | (with_reducible refine below_after ?_ (by assumption))))
              have ho1 := ho.later hb1
              have hlts := ho.lt
              have hsz1 := hb1.size
              have r0 : w1.cell? ⟨b, off + k * 2, none⟩ = some (.int .i64 xc) := (hb1.cell (p := ⟨b, off + k * 2, none⟩) hbl).trans q0
              have r1 : w1.cell? ⟨b, off + k * 2 + 1, none⟩ = some (.int .i64 xm) := (hb1.cell (p := ⟨b, off + k * 2 + 1, none⟩) hbl).trans q1
              have hbl1 : b < w1.heap.size := Nat.lt_of_lt_of_le hbl hb1.size
              have r2 : w1.cell? ⟨b, off + (k - 1) * 2, none⟩ = some (.int .i64 yc) := (hb1.cell (p := ⟨b, off + (k - 1) * 2, none⟩) hbl).trans y0
              clear y0 y1
              clear hb1 q0 q1
              go_wp2
              go_quiet ((go_at_call 54; exact Calls.quiet_of_same (stl (l6In_r _ _ _ _))))
              have hX1 : Bk (w1.alloc (.cells #[.int .i64 (inpOf xc).s, .int .i64 (inpOf xc).p, .bool (inpOf xc).z] 60)) w1.heap.size 60 #[.int .i64 (inpOf xc).s, .int .i64 (inpOf xc).p, .bool (inpOf xc).z] := Bk.new _ _ _ rfl
              clear e1 hrg
              generalize inpOf xc = xi at *
              go_wp2
              go_loopw [4, 8] (fun v kk wi => ∃ j : Nat, (j : Int) ≤ xm ∧ kk = .int .i64 j ∧ Own wi w.heap.size 60 3 encInp v (outTo ps k ++ List.replicate j xi) ∧ v.ownBlock ≠ some w1.heap.size ∧ Bk wi w1.heap.size 60 #[.int .i64 xi.s, .int .i64 xi.p, .bool xi.z] ∧ Below w.heap.size w wi) (fun _ kk _ => (xm - intOf kk).toNat)
              case atStart => exact ⟨0, by omega, rfl, by rw [List.replicate_zero, List.append_nil]; exact ((ho1.alloc _).drewN _), (by intro e; have := (hlts _ e).2; omega), hX1.drewN _, by (repeat (first | (with_reducible exact Below.refl _ _) | (with_reducible refine below_alloc ?_ _) | (with_reducible refine below_setCell ?_ ?_ _; (simp <;> omega)) | (with_reducible refine below_drew ?_) | (with_reducible refine below_drewN ?_ _) | (with_reducible refine below_after ?_ (by assumption))))⟩
              case round =>
                obtain ⟨j, hj, rfl, hoj, hvn, hX, hbj⟩ := hrel
                have s1 : wr.cell? ⟨b, off + k * 2 + 1, none⟩ = some (.int .i64 xm) := (hbj.cell (p := ⟨b, off + k * 2 + 1, none⟩) hbw).trans w1q
                have hblr : b < wr.heap.size := Nat.lt_of_lt_of_le hbw hbj.size
                have hXl := hX.lt
                obtain ⟨⟨x0, x1, x2⟩, xf⟩ := hX.c3
                clear hX1 r0 r1 ho1 ho
                have hjl : (outTo ps k ++ List.replicate j xi).length ≤ 60 := by rw [List.length_append, List.length_replicate]; omega
                by_cases hjm : (j : Int) < xm
                · have hrlt := hoj.lt
                  have hbs := hbj.size
                  go_wp2_with (at_builtin; refine wp_appL rfl _ _ 33 rfl w.heap.size 60 i0 (.agg #[.int .i64 0, .int .i64 0, .bool false]) 3 24 Try.underlying33 hi hz0 hz1 hz2 rfl (by decide) encInp_len one_inp _ _ [xi] rfl (hoj.alloc _) _ 1 1 rfl (Sl.one _ xi _ _ rfl) (by intro e; cases e) (by unfold maxLen; omega) (by omega) (by simp; omega) ?_; intro v2 w2 ho2 hg2 hl2)
                  case roundEnd =>
                    have hX2 : Bk w2 w1.heap.size 60 #[.int .i64 xi.s, .int .i64 xi.p, .bool xi.z] := (hX.alloc _).grown hg2 (Ne.symm hvn)
                    have hb2 : Below w.heap.size w w2 := (below_alloc hbj _).grown hg2 (by simp; omega) (by intro g e; exact (hrlt _ e).1)
                    have hv2 : v2.ownBlock ≠ some w1.heap.size := by
                      intro e
                      rcases hl2 with e2 | e2 <;> rw [e2] at e
                      · exact hvn e
                      · simp at e; omega
                    go_roundw
                    case rel => exact ⟨j + 1, by omega, by go_num, by rw [List.replicate_succ', ← List.append_assoc]; exact ho2, hv2, hX2, hb2⟩
                    case measure => simp [intOf]; omega
                · have hjx : xm.toNat = j := by omega
                  clear x0 x1 x2 xf
                  go_wp2
                  case roundEnd =>
                    go_roundw
                    case rel => exact ⟨k + 1, by omega, by go_num, good_succ HG.out hgo.out, by rw [HO.out, hjx]; exact hoj, hbj⟩
                    case measure => simp [intOf]; omega
            · have hz : True := trivial
              have hbad : Hid (goodParts ps = false) := Lib.hid (goodParts_no hlt (by rw [HB.out, hco, hrg, hk1, HY.out]; simp only; rw [hq]; rfl))
              have hin : Hid (inputsOf ps = []) := Lib.hid (by unfold inputsOf; rw [hbad.out]; rfl)
              rw [hbad.out, hin.out]
              go_wp2_with fail
              refine (specInputOf_any xc _).mono ?_
              rintro e w1 ⟨rfl, hb1⟩
              have hd1 : Below w.heap.size w w1 := by (repeat (first | (with_reducible exact Below.refl _ _) | (with_reducible refine below_alloc ?_ _) | (with_reducible refine below_setCell ?_ ?_ _; (simp <;> omega)) | (with_reducible refine below_drew ?_) | (with_reducible refine below_drewN ?_ _) | (with_reducible refine below_after ?_ (by assumption))))
              have ho1 := ho.later hb1
              have hlts := ho.lt
              have hsz1 := hb1.size
              have r0 : w1.cell? ⟨b, off + k * 2, none⟩ = some (.int .i64 xc) := (hb1.cell (p := ⟨b, off + k * 2, none⟩) hbl).trans q0
              have r1 : w1.cell? ⟨b, off + k * 2 + 1, none⟩ = some (.int .i64 xm) := (hb1.cell (p := ⟨b, off + k * 2 + 1, none⟩) hbl).trans q1
              have hbl1 : b < w1.heap.size := Nat.lt_of_lt_of_le hbl hb1.size
              have r2 : w1.cell? ⟨b, off + (k - 1) * 2, none⟩ = some (.int .i64 yc) := (hb1.cell (p := ⟨b, off + (k - 1) * 2, none⟩) hbl).trans y0
              clear y0 y1
              clear hb1 q0 q1
              go_wp2
              go_quiet ((go_at_call 54; exact Calls.quiet_of_same (stl (l6In_r _ _ _ _))))
              go_wp2
              have hsz := hd1.size
              exact bodyPost_ret (v := .tuple #[.slice (some ⟨w1.heap.size + 1, 0, none⟩) 0 0, .bool false]) (by simp [results, Try.results27, go_sem]) rfl ⟨some ⟨w1.heap.size + 1, 0, none⟩, 0, rfl, Nat.le_refl _, own_nil_inp _ _ _ _ (by simp; omega) (by simp), by (repeat (first | (with_reducible exact Below.refl _ _) | (with_reducible refine below_alloc ?_ _) | (with_reducible refine below_setCell ?_ ?_ _; (simp <;> omega)) | (with_reducible refine below_drew ?_) | (with_reducible refine below_drewN ?_ _) | (with_reducible refine below_after ?_ (by assumption))))⟩
    · have hke : k = ps.length := by omega
      have hgo : Hid (goodParts ps = true) := Lib.hid (goodParts_iff.2 (by rw [← hke]; exact hgood))
      have hin : Hid (inputsOf ps = outTo ps k) := Lib.hid (by unfold inputsOf; rw [hgo.out, hke]; rfl)
      clear h hgood hke
      go_wp2
      refine bodyPost_ret (v := .tuple #[.slice Av (outTo ps k).length cv, .bool true]) (by simp [results, Try.results27, go_sem]) rfl ?_
      rw [hgo.out, hin.out]
      exact ⟨Av, cv, rfl, hcv, ho, hb⟩
end Go.Proofs.Ytkendoffknjpiaa
