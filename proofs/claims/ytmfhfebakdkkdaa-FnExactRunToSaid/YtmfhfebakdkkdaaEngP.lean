/- Plain laws of the engine: how fast the car can be, and that a tick keeps a state valid. No program is named here. -/
import Derived.Test.YtmfhfebakdkkdaaEng
namespace Go.Proofs.Ytmfhfebakdkkdaa
open Go.RowKit
theorem sq_abs {a c : Int} (h : a.natAbs ≤ c.natAbs) : a * a ≤ c * c := by
  have h1 := Nat.mul_le_mul h h
  rw [← Int.natAbs_mul_self (a := a), ← Int.natAbs_mul_self (a := c)]
  exact_mod_cast h1
theorem sq_nn (a : Int) : 0 ≤ a * a := by
  rw [← Int.natAbs_mul_self (a := a)]
  exact Int.natCast_nonneg _
theorem tdiv_abs (a b : Int) : (a.tdiv b).natAbs ≤ a.natAbs := by
  rw [Int.natAbs_tdiv]
  exact Nat.div_le_self _ _
theorem mul1_abs {a k : Int} (h0 : 0 ≤ k) (h1 : k ≤ 1000) : (mul1 a k).natAbs ≤ a.natAbs := by
  unfold mul1
  rw [Int.natAbs_tdiv, Int.natAbs_mul]
  refine Nat.div_le_of_le_mul ?_
  have h2 : k.natAbs ≤ 1000 := by omega
  have h3 := Nat.mul_le_mul_left a.natAbs h2
  have h4 : (1000 : Int).natAbs = 1000 := rfl
  rw [h4, Nat.mul_comm 1000]
  exact h3
theorem mul1_mono {a k m : Int} (h0 : 0 ≤ k) (h1 : k ≤ m) : (mul1 a k).natAbs ≤ (mul1 a m).natAbs := by
  unfold mul1
  rw [Int.natAbs_tdiv, Int.natAbs_mul, Int.natAbs_tdiv, Int.natAbs_mul]
  exact Nat.div_le_div_right (Nat.mul_le_mul_left _ (by omega))
theorem nab_sq (a : Int) : (a.natAbs : Int) * (a.natAbs : Int) = a * a := by
  rw [← Int.natAbs_mul_self (a := a)]
  exact_mod_cast rfl
theorem mmmm (a b c d : Int) : (a * b) * (c * d) = (a * c) * (b * d) := by
  rw [Int.mul_assoc, ← Int.mul_assoc b c d, Int.mul_comm b c, Int.mul_assoc c b d, ← Int.mul_assoc]
theorem len2_nn (v : V2) : 0 ≤ len2 v := by
  have := sq_nn v.x; have := sq_nn v.y; unfold len2; omega
theorem lenV_mono {u v : V2} (hx : u.x.natAbs ≤ v.x.natAbs) (hy : u.y.natAbs ≤ v.y.natAbs) : lenV u ≤ lenV v := by
  refine isq_mono (len2_nn u) ?_
  have := sq_abs hx; have := sq_abs hy; unfold len2; omega
theorem lenV_nn (v : V2) : 0 ≤ lenV v := (isq_spec (len2_nn v)).1
theorem comp_le_len (v : V2) : (v.x.natAbs : Int) ≤ lenV v ∧ (v.y.natAbs : Int) ≤ lenV v := by
  have h1 := sq_nn v.x
  have h2 := sq_nn v.y
  constructor
  · refine le_isq (len2_nn v) ?_
    rw [nab_sq]; unfold len2; omega
  · refine le_isq (len2_nn v) ?_
    rw [nab_sq]; unfold len2; omega
/-- How fast a car may be. -/
def fOk (f : V2) : Prop := lenV f ≤ 2000
theorem fOk_bd {f : V2} (h : fOk f) : -2000 ≤ f.x ∧ f.x ≤ 2000 ∧ -2000 ≤ f.y ∧ f.y ≤ 2000 := by
  have := comp_le_len f
  unfold fOk at h
  omega
theorem fOk_less {u v : V2} (h : fOk v) (hx : u.x.natAbs ≤ v.x.natAbs) (hy : u.y.natAbs ≤ v.y.natAbs) : fOk u := Int.le_trans (lenV_mono hx hy) h
theorem scale_ok {v : V2} {k : Int} (h0 : 0 ≤ k) (h1 : k ≤ 1000) (h : fOk v) : fOk (scaleV v k) := fOk_less h (mul1_abs h0 h1) (mul1_abs h0 h1)
theorem cut_abs (a m n : Int) : ((a * m).tdiv n).natAbs * n.natAbs ≤ a.natAbs * m.natAbs := by
  rw [Int.natAbs_tdiv, Int.natAbs_mul]
  exact Nat.div_mul_le_self _ _
theorem clamp_ok (v : V2) : fOk (clampV v 2000) := by
  unfold clampV
  split
  · rename_i h; exact h
  · rename_i h
    have hn : 2001 ≤ lenV v := by omega
    obtain ⟨_, _, h2⟩ := isq_spec (len2_nn v)
    have h3 : len2 v < (lenV v + 1) * (lenV v + 1) := h2
    generalize hN : lenV v = n at *
    have hx := cut_abs v.x 2000 n
    have hy := cut_abs v.y 2000 n
    unfold fOk
    refine isq_le (len2_nn _) (by omega) ?_
    unfold len2
    unfold len2 at h3
    simp only
    generalize ha : (v.x * 2000).tdiv n = a at *
    generalize hb : (v.y * 2000).tdiv n = b at *
    have e1 : (a * n) * (a * n) ≤ (v.x * 2000) * (v.x * 2000) := sq_abs (by rw [Int.natAbs_mul, Int.natAbs_mul]; exact hx)
    have e2 : (b * n) * (b * n) ≤ (v.y * 2000) * (v.y * 2000) := sq_abs (by rw [Int.natAbs_mul, Int.natAbs_mul]; exact hy)
    have e3 : (a * n) * (a * n) = (a * a) * (n * n) := by rw [mmmm]
    have e4 : (b * n) * (b * n) = (b * b) * (n * n) := by rw [mmmm]
    have e5 : (v.x * 2000) * (v.x * 2000) = (v.x * v.x) * 4000000 := by rw [mmmm]; rfl
    have e6 : (v.y * 2000) * (v.y * 2000) = (v.y * v.y) * 4000000 := by rw [mmmm]; rfl
    have e7 : (n + 1) * (n + 1) = n * n + 2 * n + 1 := by
      rw [Int.add_mul, Int.mul_add, Int.one_mul, Int.mul_one]; omega
    rw [e3, e5] at e1
    rw [e4, e6] at e2
    rw [e7] at h3
    have e8 : (a * a + b * b) * (n * n) = (a * a) * (n * n) + (b * b) * (n * n) := Int.add_mul ..
    rcases Int.lt_or_le (a * a + b * b) ((2000 + 1) * (2000 + 1)) with hlt | hge
    · exact hlt
    · exfalso
      have hnn : 2001 * n ≤ n * n := Int.mul_le_mul_of_nonneg_right hn (by omega)
      have h4 : 4004001 * (n * n) ≤ (a * a + b * b) * (n * n) := Int.mul_le_mul_of_nonneg_right (by omega) (sq_nn n)
      omega
theorem dirT_bd : ∀ k : Fin 16, -1000 ≤ dirT.getD k.val 0 ∧ dirT.getD k.val 0 ≤ 1000 := by decide
theorem dirV_bd {d : Int} (h0 : 0 ≤ d) (h1 : d ≤ 15) : -1000 ≤ (dirV d).x ∧ (dirV d).x ≤ 1000 ∧ -1000 ≤ (dirV d).y ∧ (dirV d).y ≤ 1000 := by
  have a := dirT_bd ⟨d.toNat, by omega⟩
  have b := dirT_bd ⟨((d + 12) % 16).toNat, by omega⟩
  exact ⟨a.1, a.2, b.1, b.2⟩
theorem fastV_ok {f : V2} (d pw : Int) (h : fOk f) : fOk (fastV f d pw) := by
  unfold fastV
  split
  · exact clamp_ok _
  · split
    · exact scale_ok (by omega) (by omega) h
    · exact scale_ok (by omega) (by omega) h
theorem half_abs (a : Int) : (-(a.tdiv 2)).natAbs ≤ a.natAbs := by
  have := tdiv_abs a 2
  omega
theorem moveX_f {l : Lev} {p f : V2} (h : fOk f) : fOk (moveX l p f).2 := by
  unfold moveX
  split
  · exact h
  · exact fOk_less h (half_abs _) (Nat.le_refl _)
theorem moveY_f {l : Lev} {p f : V2} (h : fOk f) : fOk (moveY l p f).2 := by
  unfold moveY
  split
  · exact h
  · exact fOk_less h (Nat.le_refl _) (half_abs _)
theorem moveV_f {l : Lev} {p f : V2} (h : fOk f) : fOk (moveV l p f).2 := moveY_f (moveX_f h)
theorem moveX_free {l : Lev} {p f : V2} (h : freeB l p = true) : freeB l (moveX l p f).1 = true := by
  unfold moveX
  split
  · rename_i h1; exact h1
  · exact h
theorem moveY_free {l : Lev} {p f : V2} (h : freeB l p = true) : freeB l (moveY l p f).1 = true := by
  unfold moveY
  split
  · rename_i h1; exact h1
  · exact h
theorem moveV_free {l : Lev} {p f : V2} (h : freeB l p = true) : freeB l (moveV l p f).1 = true := moveY_free (moveX_free h)
/-- How far a move goes. -/
theorem moveX_bd {l : Lev} {p f : V2} (h : fOk f) : -2000 ≤ (moveX l p f).1.x - p.x ∧ (moveX l p f).1.x - p.x ≤ 2000 ∧ (moveX l p f).1.y = p.y := by
  have := fOk_bd h
  unfold moveX
  split
  · refine ⟨?_, ?_, rfl⟩ <;> simp only <;> omega
  · refine ⟨?_, ?_, rfl⟩ <;> simp only <;> omega
theorem moveY_bd {l : Lev} {p f : V2} (h : fOk f) : -2000 ≤ (moveY l p f).1.y - p.y ∧ (moveY l p f).1.y - p.y ≤ 2000 ∧ (moveY l p f).1.x = p.x := by
  have := fOk_bd h
  unfold moveY
  split
  · refine ⟨?_, ?_, rfl⟩ <;> simp only <;> omega
  · refine ⟨?_, ?_, rfl⟩ <;> simp only <;> omega
theorem moveV_bd {l : Lev} {p f : V2} (h : fOk f) : -2000 ≤ (moveV l p f).1.x - p.x ∧ (moveV l p f).1.x - p.x ≤ 2000 ∧ -2000 ≤ (moveV l p f).1.y - p.y ∧ (moveV l p f).1.y - p.y ≤ 2000 := by
  obtain ⟨a1, a2, a3⟩ := moveX_bd (l := l) (p := p) h
  obtain ⟨b1, b2, b3⟩ := moveY_bd (l := l) (p := (moveX l p f).1) (moveX_f (l := l) (p := p) h)
  unfold moveV
  omega
/-- What a state must be so that a tick can be reckoned. -/
structure sOk (l : Lev) (s : St) : Prop where
  p : vOk s.p = true
  f : fOk s.f
  d0 : 0 ≤ s.d
  d1 : s.d ≤ 15
  g0 : 0 ≤ s.g
  g1 : s.g ≤ l.gates.length
  ex : (s.dn && s.ov) = false
  dg : s.dn = true → s.g = l.gates.length
theorem fOk_zero : fOk ⟨0, 0⟩ := isq_le (by simp [len2]) (by omega) (by simp [len2])
theorem sOk_zero {l : Lev} (h : vOk l.start = true) : sOk l (st0 l) :=
  ⟨h, fOk_zero, by simp [st0], by simp [st0], by simp [st0], by simp [st0], rfl, by intro h; cases h⟩
theorem turnOf_bd (d s : Int) : 0 ≤ turnOf d s ∧ turnOf d s ≤ 15 := by unfold turnOf; omega
theorem gateB_lt {l : Lev} {g : Int} {p : V2} (h : gateB l g p = true) : g + 1 ≤ l.gates.length := by
  unfold gateB at h
  split at h
  · rename_i b hb
    have := (List.getElem?_eq_some_iff.1 hb).1
    simp at h
    omega
  · cases h
/-- Everything that a drive can come to. -/
theorem drive_ok {l : Lev} {s : St} (x : Inp) (h : sOk l s) (h1 : s.dn = false) : sOk l (driveS l s x) := by
  unfold driveS
  simp only
  split
  · rename_i hv
    have ht := turnOf_bd s.d x.s
    refine ⟨hv, moveV_f (fastV_ok _ _ h.f), ht.1, ht.2, ?_, ?_, by simp, ?_⟩
    · have := h.g0; simp only; split <;> omega
    · have := h.g1
      simp only
      split
      · rename_i hg; exact gateB_lt hg
      · exact this
    · intro hd
      simp only [Bool.and_eq_true, beq_iff_eq] at hd
      exact hd.1
  · exact ⟨h.p, h.f, h.d0, h.d1, h.g0, h.g1, by simp [h1], by simp [h1]⟩
theorem step_ok {l : Lev} {s : St} (x : Inp) (h : sOk l s) : sOk l (stepS l s x) := by
  unfold stepS
  split
  · exact h
  · rename_i hd
    split
    · exact ⟨h.p, h.f, h.d0, h.d1, h.g0, h.g1, h.ex, h.dg⟩
    · refine drive_ok x ⟨h.p, h.f, h.d0, h.d1, h.g0, h.g1, h.ex, h.dg⟩ ?_
      cases hdn : s.dn with
      | false => rfl
      | true => rw [hdn] at hd; simp at hd
theorem foldl_ok {l : Lev} : ∀ (ins : List Inp) (s : St), sOk l s → sOk l (ins.foldl (stepS l) s)
  | [], _, h => h
  | x :: ins, _, h => foldl_ok ins _ (step_ok x h)
theorem runTo_ok {l : Lev} (ins : List Inp) (n : Nat) (h : vOk l.start = true) : sOk l (runTo l ins n) := foldl_ok _ _ (sOk_zero h)
theorem step_free {l : Lev} {s : St} (x : Inp) (h : freeB l s.p = true) : freeB l (stepS l s x).p = true := by
  unfold stepS
  split
  · exact h
  · split
    · exact h
    · unfold driveS
      simp only
      split
      · exact moveV_free h
      · exact h
theorem foldl_free {l : Lev} : ∀ (ins : List Inp) (s : St), freeB l s.p = true → freeB l (ins.foldl (stepS l) s).p = true
  | [], _, h => h
  | x :: ins, _, h => foldl_free ins _ (step_free x h)
theorem runTo_free {l : Lev} (ins : List Inp) (n : Nat) (h : freeB l l.start = true) : freeB l (runTo l ins n).p = true := foldl_free _ _ h
theorem step_t (l : Lev) (s : St) (x : Inp) : (s.dn = true ∨ s.ov = true) ∧ stepS l s x = s ∨ s.dn = false ∧ s.ov = false ∧ (stepS l s x).t = s.t + 1 := by
  unfold stepS
  cases hd : s.dn <;> cases ho : s.ov <;> simp
  split
  · simp
  · unfold driveS
    simp only
    split <;> rfl
/-- The tick of a run: as many as inputs, or fewer where it has ended. -/
theorem runTo_t (l : Lev) (ins : List Inp) : ∀ n : Nat, n ≤ ins.length → 0 ≤ (runTo l ins n).t ∧ ((runTo l ins n).t = n ∨ (runTo l ins n).t < n ∧ ((runTo l ins n).dn = true ∨ (runTo l ins n).ov = true))
  | 0, _ => by simp [runTo_zero, st0]
  | n + 1, h => by
    obtain ⟨h1, h2⟩ := runTo_t l ins n (by omega)
    have hx : ins[n]? = some (ins[n]'(by omega)) := List.getElem?_eq_getElem _
    rw [runTo_succ hx]
    rcases step_t l (runTo l ins n) (ins[n]'(by omega)) with ⟨ha, hb⟩ | ⟨ha, hb, hc⟩
    · rw [hb]
      exact ⟨h1, .inr ⟨by omega, ha⟩⟩
    · rw [hc]
      rw [ha, hb] at h2
      simp only [Bool.false_eq_true, or_self, and_false, or_false] at h2
      exact ⟨by omega, .inl (by omega)⟩
theorem levOk_iff {l : Lev} : levOk l = true ↔ (0 ≤ l.id ∧ l.id ≤ 99) ∧ (1 ≤ l.ticks ∧ l.ticks ≤ 60) ∧ vOk l.start = true ∧ l.walls.length ≤ 4 ∧ (∀ b ∈ l.walls, bxOk b = true) ∧ l.gates.length ≤ 3 ∧ (∀ b ∈ l.gates, bxOk b = true) ∧ bxOk l.fin = true ∧ (0 ≤ l.bans ∧ l.bans ≤ 3) ∧ freeB l l.start = true := by
  simp [levOk, boxesB, inR_iff, and_assoc]
theorem ownB_iff {s : St} : ownB s = true ↔ (0 ≤ s.t ∧ s.t ≤ 60) ∧ vOk s.p = true ∧ vOk s.f = true ∧ lenV s.f ≤ 2000 ∧ (0 ≤ s.d ∧ s.d ≤ 15) ∧ (0 ≤ s.g ∧ s.g ≤ 3) ∧ (s.dn && s.ov) = false := by
  cases h : (s.dn && s.ov) <;> simp [ownB, inR_iff, h]
theorem validB_iff {l : Lev} {s : St} : validB l s = true ↔ levOk l = true ∧ ownB s = true ∧ s.t ≤ l.ticks ∧ s.g ≤ l.gates.length ∧ freeB l s.p = true ∧ (s.dn = true → s.g = l.gates.length) := by
  simp only [validB, Bool.and_eq_true, decide_eq_true_eq, Bool.or_eq_true, Bool.not_eq_true', beq_iff_eq]
  constructor
  · rintro ⟨h1, h2, h3, h4, h5, h6⟩
    exact ⟨h1, h2, h3, h4, h5, fun h => by rcases h6 with h6 | h6 <;> simp_all⟩
  · rintro ⟨h1, h2, h3, h4, h5, h6⟩
    refine ⟨h1, h2, h3, h4, h5, ?_⟩
    cases hd : s.dn
    · exact .inl rfl
    · exact .inr (h6 hd)
theorem valid_sOk {l : Lev} {s : St} (h : validB l s = true) : sOk l s := by
  obtain ⟨h1, h2, h3, h4, h5, h6⟩ := validB_iff.1 h
  obtain ⟨k1, k2, k3, k4, k5, k6, k7⟩ := ownB_iff.1 h2
  exact ⟨k2, k4, k5.1, k5.2, k6.1, h4, k7, h6⟩
theorem fOk_vOk {f : V2} (h : fOk f) : vOk f = true := by
  have := fOk_bd h
  rw [vOk_iff]; omega
/-- What is right for a tick is valid, if its tick is in range and the car is free. -/
theorem sOk_valid {l : Lev} {s : St} (hl : levOk l = true) (h : sOk l s) (h0 : 0 ≤ s.t) (h1 : s.t ≤ l.ticks) (hf : freeB l s.p = true) : validB l s = true := by
  have hL := levOk_iff.1 hl
  have := h.g1
  exact validB_iff.2 ⟨hl, ownB_iff.2 ⟨⟨h0, by omega⟩, h.p, fOk_vOk h.f, h.f, ⟨h.d0, h.d1⟩, ⟨h.g0, by omega⟩, h.ex⟩, h1, h.g1, hf, h.dg⟩
theorem step_valid {l : Lev} {s : St} (x : Inp) (h : validB l s = true) (ht : s.t < l.ticks ∨ s.dn = true ∨ s.ov = true) : validB l (stepS l s x) = true := by
  obtain ⟨h1, h2, h3, h4, h5, h6⟩ := validB_iff.1 h
  obtain ⟨k1, _⟩ := ownB_iff.1 h2
  have hs := step_t l s x
  refine sOk_valid h1 (step_ok x (valid_sOk h)) ?_ ?_ (step_free x h5)
  · rcases hs with ⟨_, e⟩ | ⟨_, _, e⟩ <;> rw [e] <;> omega
  · rcases hs with ⟨_, e⟩ | ⟨hd, ho, e⟩
    · rw [e]; exact h3
    · rw [e]
      rcases ht with ht | ht | ht
      · omega
      · rw [hd] at ht; cases ht
      · rw [ho] at ht; cases ht
theorem bxOk_bd {b : Bx} (h : bxOk b = true) : (-1000000 ≤ b.lo.x ∧ b.lo.x ≤ b.hi.x ∧ b.hi.x ≤ 1000000) ∧ (-1000000 ≤ b.lo.y ∧ b.lo.y ≤ b.hi.y ∧ b.hi.y ≤ 1000000) := by
  simp only [bxOk, Bool.and_eq_true, vOk_iff, decide_eq_true_eq] at h
  omega
end Go.Proofs.Ytmfhfebakdkkdaa
