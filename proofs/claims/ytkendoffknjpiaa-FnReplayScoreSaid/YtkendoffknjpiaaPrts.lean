/- Parts of inputs: the reference's (a slice that grows at its end), by its contract. -/
import Derived.Test.YtkendoffknjpiaaInpL
import Derived.Test.YtkendoffknjpiaaApp
import Derived.Deep.DeepMust
namespace Go.Proofs.Ytkendoffknjpiaa
open Go.ChangeShapes Go.WideShapes Go.ChangeAt Go.RowKit
/-- The parts, the last one first, when one more code comes. -/
def bump : List Prt → Int → List Prt
  | [], c => [⟨c, 1⟩]
  | p :: ps, c => if p.c = c then ⟨p.c, p.m + 1⟩ :: ps else ⟨c, 1⟩ :: p :: ps
def rparts (l : List Inp) : List Prt := (l.map code).foldl bump []
def partsOf (l : List Inp) : List Prt := (rparts l).reverse
theorem rparts_take {l : List Inp} {k : Nat} {x : Inp} (hx : l[k]? = some x) : rparts (l.take (k + 1)) = bump (rparts (l.take k)) (code x) := by
  unfold rparts
  rw [List.take_add_one, hx, List.map_append, List.foldl_append]
  rfl
theorem bump_cons (p : Prt) (ps : List Prt) (c : Int) : bump (p :: ps) c = if p.c = c then ⟨p.c, p.m + 1⟩ :: ps else ⟨c, 1⟩ :: p :: ps := rfl
theorem bump_len (R : List Prt) (c : Int) : (bump R c).length ≤ R.length + 1 := by
  cases R with
  | nil => simp [bump]
  | cons p ps => rw [bump_cons]; split <;> simp
def mOk (b : Int) (R : List Prt) : Prop := ∀ p ∈ R, 0 ≤ p.m ∧ p.m ≤ b
theorem bump_m {R : List Prt} {c b : Int} (h : mOk b R) (hb : 0 ≤ b) : mOk (b + 1) (bump R c) := by
  cases R with
  | nil => intro p hp; simp [bump] at hp; subst hp; simp; omega
  | cons q ps =>
    rw [bump_cons]
    split
    · intro p hp
      rcases List.mem_cons.1 hp with rfl | hp
      · have := h q (List.mem_cons_self ..); simp; omega
      · have := h p (List.mem_cons_of_mem _ hp); omega
    · intro p hp
      rcases List.mem_cons.1 hp with rfl | hp
      · simp; omega
      · have := h p hp; omega
theorem rparts_bd (l : List Inp) : ∀ k, (rparts (l.take k)).length ≤ k ∧ mOk k (rparts (l.take k))
  | 0 => by simp [rparts, mOk]
  | k + 1 => by
    obtain ⟨h1, h2⟩ := rparts_bd l k
    cases hx : l[k]? with
    | none => rw [List.take_add_one, hx]; simp only [Option.toList, List.append_nil]; exact ⟨by omega, fun p hp => by have := h2 p hp; omega⟩
    | some x =>
      rw [rparts_take hx]
      exact ⟨by have := bump_len (rparts (l.take k)) (code x); omega, by have := bump_m (c := code x) h2 (by omega); exact fun p hp => by have := this p hp; omega⟩
/-- The last element's second field is written. -/
theorem Own.bumpLast {w : World} {B : Nat} {T : TypeId} {g cap : Nat} {p : Prt} {ps : List Prt} (m : Int) (h : Own w B T 2 encPrt (.slice (some ⟨g, 0, none⟩) (ps.length + 1) cap) (p :: ps).reverse) :
    Own (w.setCell ⟨g, ps.length * 2 + 1, none⟩ (.int .i64 m)) B T 2 encPrt (.slice (some ⟨g, 0, none⟩) (ps.length + 1) cap) (⟨p.c, m⟩ :: ps).reverse ∧ w.grownBy (w.setCell ⟨g, ps.length * 2 + 1, none⟩ (.int .i64 m)) (some g) := by
  have h0 : w.ownsRow B T 2 (.slice (some ⟨g, 0, none⟩) (ps.length + 1) cap) (ps.length + 1) ((p :: ps).reverse.flatMap encPrt) := by
    have := h; unfold Own at this; simpa using this
  obtain ⟨h1, h2⟩ := h0.stored (ps.length * 2 + 1) (.int .i64 m)
  refine ⟨?_, h2⟩
  unfold Own
  have e : ((p :: ps).reverse.flatMap encPrt).set (ps.length * 2 + 1) (.int .i64 m) = (⟨p.c, m⟩ :: ps : List Prt).reverse.flatMap encPrt := by
    have hl := flatMap_len (enc := encPrt) (sz := 2) encPrt_len ps.reverse
    simp only [List.length_reverse] at hl
    simp only [List.reverse_cons, List.flatMap_append, List.flatMap_cons, List.flatMap_nil, List.append_nil]
    rw [List.set_append_right _ _ (by omega), hl, show ps.length * 2 + 1 - ps.length * 2 = 1 by omega]
    rfl
  rw [← e]
  simpa using h1
theorem Own.nil_lit2 (w : World) (B : Nat) (T : TypeId) (hB : B ≤ w.heap.size) : Own (w.alloc (.cells #[] T)) B T 2 encPrt (.slice (some ⟨w.heap.size, 0, none⟩) 0 0) [] :=
  World.ownsRow_lit (base := B) (size := 2) w #[] 0 hB (by decide) rfl
set_option maxRecDepth 100000 in
theorem l23Parts_any (A : Option Addr) (c : Nat) (l : List Inp) (w : World) (hv : inputsOkB l = true) (h : Sl w 3 encInp A l.length l) :
    Calls Try.prog 72 #[.slice A l.length c] w (RetOwn 63 2 encPrt (partsOf l) w) := by
  obtain ⟨hv, hn⟩ := inputsOkB_iff.1 hv
  obtain ⟨i0, hi, hz0, hz1, hz2⟩ := info_parts Try.infoPart
  have hO0 := Own.nil_lit2 w w.heap.size 63 (Nat.le_refl _)
  have hd0 := below_alloc (Below.refl w.heap.size w) (.cells #[] 63)
  go_enter Try.func72, Try.ntmps72
  go_wp2
  go_loopw [3, 4] (fun v i wr => ∃ k : Nat, k ≤ l.length ∧ i = .int .i64 k ∧ Own wr w.heap.size 63 2 encPrt v (rparts (l.take k)).reverse ∧ Below w.heap.size w wr) (fun _ i _ => l.length - (intOf i).toNat)
  case atStart => exact ⟨0, Nat.zero_le _, rfl, hO0, hd0⟩
  case round =>
    obtain ⟨k, hk, rfl, ho, hb⟩ := hrel
    clear hO0 hd0
    obtain ⟨hR1, hR2⟩ := rparts_bd l k
    have hsz := hb.size
    by_cases hlt : k < l.length
    · obtain ⟨b, off, x, rfl, hbl, hx, hc⟩ := (h.below hb).at_ hlt
      have q0 : wr.cell? ⟨b, off + k * 3, none⟩ = some (.int .i64 x.s) := hc 0 _ rfl
      have q1 : wr.cell? ⟨b, off + k * 3 + 1, none⟩ = some (.int .i64 x.p) := hc 1 _ rfl
      have q2 : wr.cell? ⟨b, off + k * 3 + 2, none⟩ = some (.bool x.z) := hc 2 _ rfl
      have hxv := hv x (List.mem_of_getElem? hx)
      have Hxv := Lib.hid hxv
      have Hx := Lib.hid (rparts_take hx)
      clear hx hc hxv hv h
      cases hR : rparts (l.take k) with
      | nil =>
        rw [hR] at ho
        rw [hR] at Hx
        obtain ⟨A1, c1, rfl, hc1, hA1⟩ := ho.form
        go_wp2_with (first
          | (go_at_call 87; refine (l12Code_any x _ Hxv.out).mono ?_; rintro e w1 ⟨rfl, hb1⟩)
          | (at_builtin; refine wp_appS rfl _ _ 43 rfl w.heap.size 63 i0 (.agg #[.int .i64 0, .int .i64 0]) 2 16 Try.underlying43 hi hz0 hz1 hz2 rfl (by decide) encPrt_len one_prt _ _ [⟨code x, 1⟩] rfl ((ho.later hb1).alloc _) _ 1 1 rfl (Sl.one _ (⟨code x, 1⟩ : Prt) _ _ rfl) (by intro e; cases e) (by unfold maxLen; simp) (by simp) (by have := hb1.size; simp; omega) ?_; intro v' w2 ho2 hg2))
        case roundEnd =>
          have hrow := ho.lt
          have hg3 : (w1.alloc (.cells #[.int .i64 (code x), .int .i64 1] 63)).grownBy w2 (Value.slice A1 ([] : List Prt).reverse.length c1).ownBlock := hg2
          have hbl2 : Below w.heap.size w w2 := ((hb.trans (hb1.mono hsz)).alloc (Nat.le_trans hsz hb1.size) _).grown hg3 (by have := hb1.size; simp; omega) (fun g e => (hrow _ e).1)
          go_roundw
          case rel => exact ⟨k + 1, by omega, by go_num, by rw [Hx.out]; exact ho2, hbl2⟩
          case measure => simp [intOf]; omega
      | cons p ps =>
        rw [hR] at ho hR1 hR2
        rw [hR, bump_cons] at Hx
        obtain ⟨A1, c1, rfl, hc1, hA1⟩ := ho.form
        have hlen : (p :: ps).reverse.length = ps.length + 1 := by simp
        rw [hlen] at ho hc1
        have hm := hR2 p (List.mem_cons_self ..)
        have hlp : ps.length + 1 ≤ 60 := by simp at hR1; omega
        obtain ⟨g, rfl⟩ : ∃ g, A1 = some ⟨g, 0, none⟩ := by
          rcases ho.2 with ⟨e, _⟩ | ⟨g, cap, cur, e, _⟩
          · simp at e
          · injection e with e; exact ⟨g, e⟩
        have hrow := (hA1 _ rfl)
        go_wp2_with fail
        refine (l12Code_any x _ Hxv.out).mono ?_
        rintro e w1 ⟨rfl, hb1⟩
        have ho1 := ho.later hb1
        have hsz1 := hb1.size
        have hd1 := hb.trans (hb1.mono hsz)
        clear ho hb
        have h0 : w1.ownsRow w.heap.size 63 2 (.slice (some ⟨g, 0, none⟩) (ps.length + 1) c1) (ps.length + 1) ((p :: ps).reverse.flatMap encPrt) := by
          have := ho1; unfold Own at this; rw [hlen] at this; exact this
        have hgx : (p :: ps).reverse[ps.length]? = some p := by simp
        have e0 : w1.cell? ⟨g, ps.length * 2, none⟩ = some (.int .i64 p.c) := by
          rw [h0.cellAt _ (by omega)]
          exact flatMap_at encPrt_len _ ps.length p 0 (.int .i64 p.c) hgx rfl
        have e1 : w1.cell? ⟨g, ps.length * 2 + 1, none⟩ = some (.int .i64 p.m) := by
          rw [h0.cellAt _ (by omega)]
          exact flatMap_at encPrt_len _ ps.length p 1 (.int .i64 p.m) hgx rfl
        have f1 := h0.frozenAt (ps.length * 2 + 1)
        by_cases hpc : p.c = code x
        · rw [if_pos hpc] at Hx
          obtain ⟨ho2, hg2⟩ := ho1.bumpLast (p.m + 1)
          have hbl2 := hd1.grown hg2 (Nat.le_trans hsz hsz1) (fun g' e => by cases e; exact hrow.1)
          go_wp2
          case roundEnd =>
            go_roundw
            case rel => exact ⟨k + 1, by omega, by go_num, by rw [Hx.out]; exact ho2, hbl2⟩
            case measure => simp [intOf]; omega
        · rw [if_neg hpc] at Hx
          have hp2 : ¬ (p.c = code x) := hpc
          go_wp2_with (at_builtin; refine wp_appS rfl _ _ 43 rfl w.heap.size 63 i0 (.agg #[.int .i64 0, .int .i64 0]) 2 16 Try.underlying43 hi hz0 hz1 hz2 rfl (by decide) encPrt_len one_prt _ _ [⟨code x, 1⟩] rfl (ho1.alloc _) _ 1 1 rfl (Sl.one _ (⟨code x, 1⟩ : Prt) _ _ rfl) (by intro e; cases e) (by unfold maxLen; rw [hlen]; omega) (by rw [hlen]; omega) (by simp; omega) ?_; intro v' w2 ho2 hg2)
          case roundEnd =>
            have hg3 : (w1.alloc (.cells #[.int .i64 (code x), .int .i64 1] 63)).grownBy w2 (some g) := hg2
            have hbl2 : Below w.heap.size w w2 := (hd1.alloc (Nat.le_trans hsz hsz1) _).grown hg3 (by simp; omega) (fun g' e => by cases e; exact hrow.1)
            go_roundw
            case rel => exact ⟨k + 1, by omega, by go_num, by rw [Hx.out, List.reverse_cons]; exact ho2, hbl2⟩
            case measure => simp [intOf]; omega
    · have hke : k = l.length := by omega
      rw [hke, List.take_length] at ho
      obtain ⟨A1, c1, rfl, hc1, _⟩ := ho.form
      go_wp2
      exact bodyPost_ret (v := .slice A1 (partsOf l).length c1) (by simp [results, Try.results72, go_sem, partsOf]) rfl ⟨A1, c1, rfl, hc1, ho, hb⟩
end Go.Proofs.Ytkendoffknjpiaa
