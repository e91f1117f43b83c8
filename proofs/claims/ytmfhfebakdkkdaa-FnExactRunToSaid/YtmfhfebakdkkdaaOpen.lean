/- A law's arguments opened: slices of ints, bytes, inputs, parts; replays. -/
import Derived.Test.YtmfhfebakdkkdaaFrame
namespace Go.Proofs.Ytmfhfebakdkkdaa
open Go.ChangeShapes Go.WideShapes Go.ChangeAt Go.RowKit Go.Joins Go.Deep
theorem skolem_lt {α : Type} {n : Nat} {p : Nat → α → Prop} (h : ∀ i, i < n → ∃ x, p i x) : ∃ l : List α, l.length = n ∧ ∀ i x, l[i]? = some x → p i x := by
  induction n with
  | zero => exact ⟨[], rfl, fun i x hx => by simp at hx⟩
  | succ n ih =>
    obtain ⟨l, hl, hp⟩ := ih fun i hi => h i (by omega)
    obtain ⟨x, hx⟩ := h n (by omega)
    refine ⟨l ++ [x], by simp [hl], fun i y hy => ?_⟩
    by_cases hi : i < n
    · rw [List.getElem?_append_left (by omega)] at hy
      exact hp i y hy
    · rw [List.getElem?_append_right (by omega)] at hy
      have h0 : i - l.length = 0 := by
        have := (List.getElem?_eq_some_iff.1 hy).1
        simp at this
        omega
      rw [h0] at hy
      simp only [List.getElem?_cons_zero, Option.some.injEq] at hy
      subst hy
      have : i = n := by omega
      subst this
      exact hx

section
variable {H : Type} {enc : TypeId × Value → H} {w : World} {base : Nat} {spare : Nat → Bool} {held : Bool}
theorem open_sl {P : Program} {α : Type} {t e : TypeId} {sz : Nat} {ec : α → List Value} {good : α → Prop} (ht : P.underlying t = some (.slice e)) (hC : P.cellsOf e = sz) (hpos : 0 < sz) (hlen : ∀ x, (ec x).length = sz)
    (helem : ∀ fuel cs y, DataW.trod enc P w base spare held fuel e cs = some y → ∃ x, cs = ec x ∧ good x) {A : Option Addr} {n c : Nat} {d : DataW H} {ps : List MemPlace}
    (h : DataW.Trod enc P w base spare held t (.slice A n c) d ps) : ∃ l : List α, Sl w sz ec A n l ∧ (∀ x ∈ l, good x) ∧ (n ≤ c ∧ c ≤ 9223372036854775807) := by
  obtain ⟨fuel, hf⟩ := h
  rcases open_slice ht hf with ⟨hcs, _⟩ | ⟨a, len, cap, m, k, D, Pl, hcs, _, hl, hm, hmm, _, hi⟩
  · simp only [Value.cells, List.cons.injEq, Value.slice.injEq, and_true] at hcs
    obtain ⟨rfl, rfl, rfl⟩ := hcs
    exact ⟨[], Sl.nil, fun x hx => by simp at hx, by omega, by omega⟩
  · simp only [Value.cells, List.cons.injEq, Value.slice.injEq, and_true] at hcs
    obtain ⟨rfl, rfl, rfl⟩ := hcs
    have hmn : n ≤ m := by rw [hmm]; split <;> omega
    have hex : ∀ i, i < n → ∃ x : α, good x ∧ ∀ j v, (ec x)[j]? = some v → w.cell? (a.add (i * sz + j)) = some v := by
      intro i hin
      obtain ⟨cs', hc, ht'⟩ := hi i (by omega)
      obtain ⟨x, rfl, hg⟩ := helem _ _ _ ht'
      obtain ⟨_, hcl, hat⟩ := World.cells?_some hc
      rw [hC] at hat hcl
      refine ⟨x, hg, fun j v hv => ?_⟩
      rw [← Go.Deep.add_add, ← hv]
      exact hat j (by have := (List.getElem?_eq_some_iff.1 hv).1; omega)
    obtain ⟨l, hll, hlp⟩ := skolem_lt hex
    refine ⟨l, ⟨hll, fun hpos2 => ?_⟩, fun x hx => ?_, hl, by unfold maxLen at hm; omega⟩
    · obtain ⟨b, off, spot⟩ := a
      have hx0 : l[0]? = some (l[0]'(by omega)) := List.getElem?_eq_getElem _
      have hv0 : (ec (l[0]'(by omega)))[0]? = some ((ec (l[0]'(by omega)))[0]'(by rw [hlen]; omega)) := List.getElem?_eq_getElem _
      have hc0 := (hlp 0 _ hx0).2 0 _ hv0
      have hadd0 : (⟨b, off, spot⟩ : Addr).add (0 * sz + 0) = ⟨b, off, spot⟩ := by simp [Addr.add]
      rw [hadd0] at hc0
      have hs : spot = none := World.cell?_spot hc0
      subst hs
      refine ⟨b, off, rfl, World.block_lt_of_cell? w _ hc0, fun k x hk j v hv => ?_⟩
      have := (hlp k x hk).2 j v hv
      rwa [add_plain, ← Nat.add_assoc] at this
    · obtain ⟨i, hi'⟩ := List.getElem?_of_mem hx
      exact (hlp i x hi').1
end

section
variable {H : Type} {enc : TypeId × Value → H} {P : Program} {w : World} {base : Nat} {spare : Nat → Bool} {held : Bool} {fuel : Nat} {e : TypeId} {cs : List Value} {y : DataW H × List MemPlace}
theorem elem_int (he : P.underlying e = some (.int .i64)) (h : DataW.trod enc P w base spare held fuel e cs = some y) : ∃ x : Int, cs = encInt x ∧ (Lit.int .i64 x).wf = true := by
  obtain ⟨n, rfl, _, hw⟩ := DataW.trod_int he h
  exact ⟨n, rfl, hw⟩
theorem elem_u8 (he : P.underlying e = some (.int .u8)) (h : DataW.trod enc P w base spare held fuel e cs = some y) : ∃ x : Int, cs = encU8 x ∧ (Lit.int .u8 x).wf = true := by
  obtain ⟨n, rfl, _, hw⟩ := DataW.trod_int he h
  exact ⟨n, rfl, hw⟩
/-- The fields of a struct of one-cell fields, each read by itself. -/
theorem elem_fields {fs : Array Field} (he : P.underlying e = some (.struct fs)) (hone : oneCellFields P fs = true) (hC : P.cellsOf e = fs.size) (h : DataW.trod enc P w base spare held fuel e cs = some y) :
    ∃ n, cs.length = fs.size ∧ ∀ (j : Nat) (f : Field), fs[j]? = some f → ∃ v z, cs[j]? = some v ∧ DataW.trod enc P w base spare held n f.type [v] = some z := by
  obtain ⟨xs, n, _, _, hlen, hxl, hf⟩ := DataW.trod_struct he h
  refine ⟨n, hlen.trans hC, fun j f hj => ?_⟩
  obtain ⟨ho, hk⟩ := hone_of hone j f hj
  have hjl : j < fs.size := (Array.getElem?_eq_some_iff.1 hj).1
  have h1 := hf j f hj
  rw [ho, hk] at h1
  have hl : j < cs.length := by rw [hlen, hC]; exact hjl
  have hone' : (cs.drop j).take 1 = [cs[j]'hl] := by
    rw [List.drop_eq_getElem_cons hl]
    rfl
  rw [hone'] at h1
  exact ⟨cs[j]'hl, xs[j]'(by omega), List.getElem?_eq_getElem hl, h1.trans (List.getElem?_eq_getElem (by omega))⟩
end

section
variable {H : Type} {enc : TypeId × Value → H} {w : World} {base : Nat} {spare : Nat → Bool} {held : Bool}
def goodInt (x : Int) : Prop := (Lit.int .i64 x).wf = true
def goodInp (x : Inp) : Prop := goodInt x.s ∧ goodInt x.p
def goodPrt (x : Prt) : Prop := goodInt x.c ∧ goodInt x.m
def goodU8 (x : Int) : Prop := (Lit.int .u8 x).wf = true
theorem u8_bd {x : Int} (h : goodU8 x) : 0 ≤ x ∧ x < 256 := by
  have := bounds_u8 h
  omega
theorem elem_Input {fuel : Nat} {cs : List Value} {y : DataW H × List MemPlace} (h : DataW.trod enc Try.prog w base spare held fuel 101 cs = some y) : ∃ x : Inp, cs = encInp x ∧ goodInp x := by
  obtain ⟨n, hl, hf⟩ := elem_fields Try.underlying101 (by kernel_rfl) (by kernel_rfl) h
  obtain ⟨v0, z0, e0, h0⟩ := hf 0 _ rfl
  obtain ⟨v1, z1, e1, h1⟩ := hf 1 _ rfl
  obtain ⟨v2, z2, e2, h2⟩ := hf 2 _ rfl
  obtain ⟨a, ha, _, wa⟩ := DataW.trod_int Try.underlying3 h0
  obtain ⟨b, hb, _, wb⟩ := DataW.trod_int Try.underlying3 h1
  obtain ⟨c, hc, _⟩ := DataW.trod_bool Try.underlying4 h2
  simp only [List.cons.injEq, and_true] at ha hb hc
  subst ha hb hc
  match cs, hl with
  | [c0, c1, c2], _ =>
    simp only [List.getElem?_cons_zero, List.getElem?_cons_succ, Option.some.injEq] at e0 e1 e2
    subst e0 e1 e2
    exact ⟨⟨a, b, c⟩, rfl, wa, wb⟩
set_option maxRecDepth 100000 in
theorem open_inputs {A : Option Addr} {n c : Nat} {d : DataW H} {ps : List MemPlace} (h : DataW.Trod enc Try.prog w base spare held 49 (.slice A n c) d ps) :
    ∃ l : List Inp, Sl w 3 encInp A n l ∧ (∀ x ∈ l, goodInp x) ∧ (n ≤ c ∧ c ≤ 9223372036854775807) :=
  open_sl Try.underlying49 (by kernel_rfl) (by omega) encInp_len (fun _ _ _ hy => elem_Input hy) h
set_option maxRecDepth 100000 in
theorem open_intS {A : Option Addr} {n c : Nat} {d : DataW H} {ps : List MemPlace} (h : DataW.Trod enc Try.prog w base spare held 75 (.slice A n c) d ps) :
    ∃ l : List Int, Sl w 1 encInt A n l ∧ (∀ x ∈ l, goodInt x) ∧ (n ≤ c ∧ c ≤ 9223372036854775807) :=
  open_sl Try.underlying75 (by kernel_rfl) (by omega) encInt_len (fun _ _ _ hy => elem_int Try.underlying3 hy) h
set_option maxRecDepth 100000 in
theorem open_bytes {A : Option Addr} {n c : Nat} {d : DataW H} {ps : List MemPlace} (h : DataW.Trod enc Try.prog w base spare held 22 (.slice A n c) d ps) :
    ∃ l : List Int, Sl w 1 encU8 A n l ∧ (∀ x ∈ l, goodU8 x) ∧ (n ≤ c ∧ c ≤ 9223372036854775807) :=
  open_sl Try.underlying22 (by kernel_rfl) (by omega) encU8_len (fun _ _ _ hy => elem_u8 Try.underlying5 hy) h
/-- A slice among one-cell fields, shown by its one cell. -/
theorem trod1_slice {P : Program} {t e : TypeId} {n : Nat} {v : Value} {z : DataW H × List MemPlace} (ht : P.underlying t = some (.slice e)) (h : DataW.trod enc P w base spare held n t [v] = some z) :
    ∃ A len c, v = .slice A len c ∧ DataW.Trod enc P w base spare held t (.slice A len c) z.1 z.2 := by
  rcases open_slice ht h with ⟨hcs, _⟩ | ⟨a, len, cap, _, _, _, _, hcs, _⟩
  · simp only [List.cons.injEq, and_true] at hcs
    subst hcs
    exact ⟨_, _, _, rfl, n, h⟩
  · simp only [List.cons.injEq, and_true] at hcs
    subst hcs
    exact ⟨_, _, _, rfl, n, h⟩
end
end Go.Proofs.Ytmfhfebakdkkdaa
