/- Parts and inputs: the plain laws. No program is named here. -/
import Derived.Test.YtkendoffknjpiaaPrtsJ
import Derived.Test.YtkendoffknjpiaaRInp
namespace Go.Proofs.Ytkendoffknjpiaa
open Go.RowKit
def expC (ps : List Prt) : List Int := ps.flatMap fun p => List.replicate p.m.toNat p.c
/-- Parts, the last one first: none empty, and neighbours have different codes. -/
def Alt : List Prt → Prop
  | [] => True
  | p :: ps => 1 ≤ p.m ∧ (∀ q, ps.head? = some q → q.c ≠ p.c) ∧ Alt ps
theorem bump_alt {R : List Prt} {c : Int} (h : Alt R) : Alt (bump R c) := by
  cases R with
  | nil => exact ⟨Int.le_refl _, fun q hq => (by cases hq), trivial⟩
  | cons p ps =>
    obtain ⟨h1, h2, h3⟩ := h
    rw [bump_cons]
    split
    · exact ⟨by simp only; omega, h2, h3⟩
    · rename_i hne
      exact ⟨Int.le_refl _, fun q hq => by simp only [List.head?_cons, Option.some.injEq] at hq; subst hq; exact hne, h1, h2, h3⟩
theorem bump_exp {R : List Prt} {c : Int} (h : Alt R) : expC (bump R c).reverse = expC R.reverse ++ [c] := by
  cases R with
  | nil => rfl
  | cons p ps =>
    obtain ⟨h1, h2, h3⟩ := h
    rw [bump_cons]
    split
    · rename_i he
      subst he
      have e : (p.m + 1).toNat = p.m.toNat + 1 := by omega
      simp only [expC, List.reverse_cons, List.flatMap_append, List.flatMap_cons, List.flatMap_nil, List.append_nil, e, List.replicate_succ', List.append_assoc]
    · simp only [expC, List.reverse_cons, List.flatMap_append, List.flatMap_cons, List.flatMap_nil, List.append_nil, List.append_assoc]
      rfl
theorem rb_alt : ∀ (cs : List Int) (R : List Prt), Alt R → Alt (cs.foldl bump R) ∧ expC (cs.foldl bump R).reverse = expC R.reverse ++ cs
  | [], R, h => ⟨h, by simp⟩
  | c :: cs, R, h => by
    obtain ⟨h1, h2⟩ := rb_alt cs (bump R c) (bump_alt h)
    refine ⟨h1, ?_⟩
    rw [List.foldl_cons, h2, bump_exp h, List.append_assoc]
    rfl
theorem rparts_alt (l : List Inp) : Alt (rparts l) := (rb_alt _ [] trivial).1
theorem partsOf_exp (l : List Inp) : expC (partsOf l) = l.map code := (rb_alt (l.map code) [] trivial).2
theorem bump_rep {c : Int} : ∀ (n : Nat) (R : List Prt) (m : Int), (List.replicate n c).foldl bump (⟨c, m⟩ :: R) = ⟨c, m + n⟩ :: R
  | 0, R, m => by simp
  | n + 1, R, m => by
    rw [List.replicate_succ, List.foldl_cons, bump_cons, if_pos rfl]
    simp only
    rw [bump_rep n R (m + 1)]
    have : m + 1 + (n : Int) = m + ((n + 1 : Nat) : Int) := by omega
    rw [this]
theorem bump_new {c : Int} {n : Nat} {R : List Prt} (hn : 1 ≤ n) (h : ∀ q, R.head? = some q → q.c ≠ c) : (List.replicate n c).foldl bump R = ⟨c, n⟩ :: R := by
  obtain ⟨m, rfl⟩ : ∃ m, n = m + 1 := ⟨n - 1, by omega⟩
  rw [List.replicate_succ, List.foldl_cons]
  have hb : bump R c = ⟨c, 1⟩ :: R := by
    cases R with
    | nil => rfl
    | cons q qs => rw [bump_cons, if_neg (h q rfl)]
  rw [hb, bump_rep]
  have : (1 : Int) + (m : Int) = ((m + 1 : Nat) : Int) := by omega
  rw [this]
theorem code_inpOf {c : Int} (h : codeOk c = true) : code (inpOf c) = c := by
  simp only [codeOk, Bool.and_eq_true, decide_eq_true_eq] at h
  unfold inpOf
  split
  · simp [code]; omega
  · rw [if_pos (by omega)]
    simp only [code]
    simp
    omega
theorem inpOf_code {x : Inp} (h : inpOk x = true) : inpOf (code x) = x := by
  have h' := inpOk_bd h
  obtain ⟨s, p, z⟩ := x
  simp only at h'
  cases z with
  | true =>
    obtain ⟨_, _, _, _, h5⟩ := h'
    obtain ⟨rfl, rfl⟩ := h5 rfl
    simp [code, inpOf]
  | false =>
    have hc : code ⟨s, p, false⟩ = 3 * p + s + 1 := rfl
    rw [hc]
    unfold inpOf
    rw [if_neg (by omega), if_pos (by omega)]
    have e1 : (3 * p + s + 1) % 3 - 1 = s := by omega
    have e2 : (3 * p + s + 1) / 3 = p := by omega
    rw [e1, e2]
theorem code_ok {x : Inp} (h : inpOk x = true) : codeOk (code x) = true := by
  have h' := inpOk_bd h
  obtain ⟨s, p, z⟩ := x
  simp only at h'
  cases z <;> simp [code, codeOk]
  omega
theorem inpOf_ok (c : Int) (h : codeOk c = true) : inpOk (inpOf c) = true := by
  simp only [codeOk, Bool.and_eq_true, decide_eq_true_eq] at h
  unfold inpOf
  split
  · rfl
  · rw [if_pos (by omega)]
    simp [inpOk]
    omega
/-! ### inputs of parts of inputs -/
theorem outTo_exp (ps : List Prt) (k : Nat) : outTo ps k = (expC (ps.take k)).map inpOf := by
  unfold outTo expC
  rw [List.map_flatMap]
  congr 1
  funext p
  rw [List.map_replicate]
theorem map_inpOf {l : List Inp} (h : ∀ x ∈ l, inpOk x = true) : (l.map code).map inpOf = l := by
  rw [List.map_map]
  have : ∀ x ∈ l, (inpOf ∘ code) x = id x := fun x hx => inpOf_code (h x hx)
  rw [List.map_congr_left this, List.map_id]
theorem alt_at : ∀ {R : List Prt}, Alt R → (∀ p ∈ R, 1 ≤ p.m) ∧ ∀ k p q, R[k]? = some p → R[k + 1]? = some q → q.c ≠ p.c
  | [], _ => ⟨fun p hp => (by cases hp), fun k p q h => (by simp at h)⟩
  | a :: R, h => by
    obtain ⟨h1, h2, h3⟩ := h
    obtain ⟨g1, g2⟩ := alt_at h3
    refine ⟨fun p hp => ?_, fun k p q hp hq => ?_⟩
    · rcases List.mem_cons.1 hp with rfl | hp
      · exact h1
      · exact g1 p hp
    · cases k with
      | zero =>
        simp only [List.getElem?_cons_zero, Option.some.injEq] at hp
        subst hp
        rw [List.getElem?_cons_succ] at hq
        exact h2 q (by rw [List.head?_eq_getElem?]; exact hq)
      | succ k =>
        rw [List.getElem?_cons_succ] at hp hq
        exact g2 k p q hp hq
theorem parts_m {l : List Inp} {p : Prt} (h : p ∈ partsOf l) : 1 ≤ p.m := (alt_at (rparts_alt l)).1 p (by unfold partsOf at h; simpa using h)
theorem parts_ne {l : List Inp} {k : Nat} {p q : Prt} (hp : (partsOf l)[k]? = some p) (hq : (partsOf l)[k + 1]? = some q) : p.c ≠ q.c := by
  unfold partsOf at hp hq
  have hk : k + 1 < (rparts l).length := by
    have := (List.getElem?_eq_some_iff.1 hq).1
    simpa using this
  rw [List.getElem?_reverse (by omega)] at hp
  rw [List.getElem?_reverse (by omega)] at hq
  have e : (rparts l).length - 1 - k = (rparts l).length - 1 - (k + 1) + 1 := by omega
  rw [e] at hp
  exact (alt_at (rparts_alt l)).2 _ _ _ hq hp
theorem exp_len (ps : List Prt) : (expC ps).length = (ps.map fun p => p.m.toNat).sum := by
  unfold expC
  rw [List.length_flatMap]
  congr 1
  apply List.map_congr_left
  intro p _
  rw [List.length_replicate]
theorem exp_take_le (ps : List Prt) (k : Nat) : (expC (ps.take k)).length ≤ (expC ps).length := by
  have h : expC ps = expC (ps.take k) ++ expC (ps.drop k) := by
    unfold expC
    rw [← List.flatMap_append, List.take_append_drop]
  rw [h, List.length_append]
  omega
theorem exp_mem {ps : List Prt} {p : Prt} (h : p ∈ ps) (hm : 1 ≤ p.m) : p.c ∈ expC ps := by
  unfold expC
  rw [List.mem_flatMap]
  exact ⟨p, h, by rw [List.mem_replicate]; exact ⟨by omega, rfl⟩⟩
theorem good_partsOf {l : List Inp} (h : inputsOkB l = true) : goodParts (partsOf l) = true := by
  obtain ⟨hv, hl⟩ := inputsOkB_iff.1 h
  rw [goodParts_iff]
  intro k hk
  have hp : (partsOf l)[k]? = some ((partsOf l)[k]'hk) := List.getElem?_eq_getElem _
  generalize (partsOf l)[k]'hk = p at hp
  have hmem : p ∈ partsOf l := List.mem_of_getElem? hp
  have hm := parts_m hmem
  rw [badP_eq hp]
  have hc : codeOk p.c = true := by
    have := exp_mem hmem hm
    rw [partsOf_exp] at this
    obtain ⟨x, hx, hxc⟩ := List.mem_map.1 this
    rw [← hxc]
    exact code_ok (hv x hx)
  have hlen : (outTo (partsOf l) k).length + p.m.toNat ≤ 60 := by
    have h1 : (outTo (partsOf l) (k + 1)).length ≤ 60 := by
      rw [outTo_exp, List.length_map]
      have := exp_take_le (partsOf l) (k + 1)
      rw [partsOf_exp, List.length_map] at this
      omega
    rw [outTo_succ hp, List.length_append, List.length_replicate] at h1
    exact h1
  have hr : inR 1 (60 - (outTo (partsOf l) k).length) p.m = true := by
    rw [inR_iff]; omega
  rw [hc, hr]
  cases k with
  | zero => rfl
  | succ k =>
    have hq : (partsOf l)[k]? = some ((partsOf l)[k]'(by omega)) := List.getElem?_eq_getElem _
    generalize (partsOf l)[k]'(by omega) = q at hq
    have hne := parts_ne hq hp
    have : (partsOf l)[k + 1 - 1]? = some q := hq
    rw [this]
    simp [hne]
theorem inputs_partsOf {l : List Inp} (h : inputsOkB l = true) : inputsOf (partsOf l) = l := by
  unfold inputsOf
  rw [good_partsOf h, if_pos rfl, outTo_exp, List.take_length, partsOf_exp, map_inpOf (inputsOkB_iff.1 h).1]
theorem partsL_pos {l : List Inp} (h : 0 < (partsL l).length) : inputsOkB l = true ∧ partsL l = partsOf l ∧ 0 < l.length := by
  unfold partsL at *
  cases hi : inputsOkB l with
  | false => rw [hi] at h; simp at h
  | true =>
    rw [hi] at h
    refine ⟨rfl, by simp, ?_⟩
    cases l with
    | nil => simp [partsOf, rparts] at h
    | cons => simp
/-! ### parts of inputs of parts -/
theorem parts_inputs {ps : List Prt} : ∀ k, k ≤ ps.length → (∀ j, j < k → badP ps j = false) → rparts (outTo ps k) = (ps.take k).reverse ∧ (∀ x ∈ outTo ps k, inpOk x = true)
  | 0, _, _ => ⟨by simp [outTo, rparts], by simp [outTo]⟩
  | k + 1, hk, h => by
    obtain ⟨ih, ihv⟩ := parts_inputs k (by omega) fun j hj => h j (by omega)
    have hp : ps[k]? = some (ps[k]'(by omega)) := List.getElem?_eq_getElem _
    generalize ps[k]'(by omega) = p at hp
    have hb := h k (by omega)
    rw [badP_eq hp] at hb
    simp only [Bool.or_eq_false_iff, Bool.not_eq_false'] at hb
    obtain ⟨hc, hr, hne⟩ := hb
    obtain ⟨m1, m2⟩ := inR_iff.1 hr
    refine ⟨?_, fun x hx => ?_⟩
    · rw [outTo_succ hp]
      have e1 : rparts (outTo ps k ++ List.replicate p.m.toNat (inpOf p.c)) = (List.replicate p.m.toNat p.c).foldl bump (rparts (outTo ps k)) := by
        unfold rparts
        rw [List.map_append, List.foldl_append, List.map_replicate, code_inpOf hc]
      rw [e1, ih, bump_new (by omega), List.take_add_one, hp]
      · have e2 : ((p.m.toNat : Nat) : Int) = p.m := by omega
        rw [e2]
        simp
      · intro q hq
        rw [List.head?_reverse, List.getLast?_take] at hq
        split at hq
        · cases hq
        · rename_i hk0
          have hk1 : decide (0 < k) = true := by simp; omega
          rw [hk1] at hne
          have hq' : ps[k - 1]? = some (ps[k - 1]'(by omega)) := List.getElem?_eq_getElem _
          rw [hq'] at hq hne
          simp only [Option.some_or, Option.some.injEq] at hq
          subst hq
          simpa using hne
    · rw [outTo_succ hp, List.mem_append] at hx
      rcases hx with hx | hx
      · exact ihv x hx
      · rw [List.mem_replicate] at hx
        rw [hx.2]
        exact inpOf_ok _ hc
theorem partsL_inputs {ps : List Prt} (h : goodParts ps = true) : partsL (inputsOf ps) = ps ∧ inputsOkB (inputsOf ps) = true ∧ (inputsOf ps).length ≤ 60 := by
  have hg := goodParts_iff.1 h
  obtain ⟨h1, h2⟩ := parts_inputs ps.length (Nat.le_refl _) hg
  have h3 := outTo_len hg (Nat.le_refl _)
  have e : inputsOf ps = outTo ps ps.length := by unfold inputsOf; rw [h, if_pos rfl]
  have hi : inputsOkB (outTo ps ps.length) = true := inputsOkB_iff.2 ⟨h2, h3⟩
  refine ⟨?_, by rw [e]; exact hi, by rw [e]; exact h3⟩
  rw [e]
  unfold partsL
  rw [hi, if_pos rfl]
  unfold partsOf
  rw [h1, List.take_length, List.reverse_reverse]
theorem split_bad {ps : List Prt} {k : Nat} {p : Prt} (hp : ps[k]? = some p) : goodParts (ps.take (k + 1) ++ [⟨p.c, 1⟩] ++ ps.drop (k + 1)) = false := by
  have hk : k < ps.length := (List.getElem?_eq_some_iff.1 hp).1
  have hl : (ps.take (k + 1)).length = k + 1 := by rw [List.length_take]; omega
  refine goodParts_no (k := k + 1) (by simp only [List.length_append, hl, List.length_cons, List.length_nil]; omega) ?_
  have hx : (ps.take (k + 1) ++ [⟨p.c, 1⟩] ++ ps.drop (k + 1))[k + 1]? = some ⟨p.c, 1⟩ := by
    rw [List.append_assoc, List.getElem?_append_right (by omega), hl, Nat.sub_self]
    rfl
  have hy : (ps.take (k + 1) ++ [⟨p.c, 1⟩] ++ ps.drop (k + 1))[k + 1 - 1]? = some p := by
    rw [Nat.add_sub_cancel, List.append_assoc, List.getElem?_append_left (by omega), List.getElem?_take, if_pos (by omega)]
    exact hp
  rw [badP_eq hx, hy]
  simp
theorem parts_one {x : Inp} {n : Nat} (hx : inpOk x = true) (h1 : 1 ≤ n) (h2 : n ≤ 60) : partsL (List.replicate n x) = [⟨code x, n⟩] := by
  have hi : inputsOkB (List.replicate n x) = true := inputsOkB_iff.2 ⟨fun y hy => by rw [(List.mem_replicate.1 hy).2]; exact hx, by rw [List.length_replicate]; exact h2⟩
  unfold partsL
  rw [hi, if_pos rfl]
  unfold partsOf rparts
  rw [List.map_replicate, bump_new h1 (fun q hq => by cases hq)]
  rfl
def sumM (ps : List Prt) : Int := (ps.map (·.m)).sum
theorem sum_toNat : ∀ (ps : List Prt), (∀ p ∈ ps, 1 ≤ p.m) → (((ps.map fun p => p.m.toNat).sum : Nat) : Int) = sumM ps
  | [], _ => rfl
  | p :: ps, h => by
    have h1 := h p (List.mem_cons_self ..)
    have h2 := sum_toNat ps fun q hq => h q (List.mem_cons_of_mem _ hq)
    unfold sumM at *
    simp only [List.map_cons, List.sum_cons]
    rw [Int.natCast_add, h2]
    omega
theorem parts_sum (l : List Inp) : sumM (partsOf l) = l.length := by
  rw [← sum_toNat _ fun p hp => parts_m hp, ← exp_len, partsOf_exp, List.length_map]
theorem sumM_succ {ps : List Prt} {k : Nat} {p : Prt} (hp : ps[k]? = some p) : sumM (ps.take (k + 1)) = sumM (ps.take k) + p.m := by
  unfold sumM
  rw [List.take_add_one, hp]
  simp
end Go.Proofs.Ytkendoffknjpiaa
