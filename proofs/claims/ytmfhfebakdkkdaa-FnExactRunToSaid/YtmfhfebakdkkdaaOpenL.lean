/- A law's arguments opened: levels. (Round B) -/
import Derived.Test.YtmfhfebakdkkdaaOpen
import Derived.Test.YtmfhfebakdkkdaaEng
namespace Go.Proofs.Ytmfhfebakdkkdaa
open Go.ChangeShapes Go.WideShapes Go.ChangeAt Go.RowKit Go.Joins Go.Deep
section
variable {H : Type} {enc : TypeId × Value → H} {w : World} {base : Nat} {spare : Nat → Bool} {held : Bool} {fuel : Nat} {cs : List Value} {y : DataW H × List MemPlace}
theorem struct_at {P : Program} {e : TypeId} {fs : Array Field} (he : P.underlying e = some (.struct fs)) (h : DataW.trod enc P w base spare held fuel e cs = some y) :
    ∃ n, cs.length = P.cellsOf e ∧ ∀ (j : Nat) (f : Field), fs[j]? = some f → ∃ z, DataW.trod enc P w base spare held n f.type ((cs.drop f.offset).take (P.cellsOf f.type)) = some z := by
  obtain ⟨xs, n, _, _, hlen, hxl, hf⟩ := DataW.trod_struct he h
  refine ⟨n, hlen, fun j f hj => ?_⟩
  have hjl : j < fs.size := (Array.getElem?_eq_some_iff.1 hj).1
  exact ⟨xs[j]'(by omega), (hf j f hj).trans (List.getElem?_eq_getElem (by omega))⟩
theorem elem_Vec (h : DataW.trod enc Try.prog w base spare held fuel 43 cs = some y) : ∃ v : V2, cs = encV2 v := by
  obtain ⟨n, hl, hf⟩ := elem_fields Try.underlying43 (by kernel_rfl) (by kernel_rfl) h
  obtain ⟨v0, z0, e0, h0⟩ := hf 0 _ rfl
  obtain ⟨v1, z1, e1, h1⟩ := hf 1 _ rfl
  obtain ⟨a, ha, _, _⟩ := DataW.trod_int Try.underlying3 h0
  obtain ⟨b, hb, _, _⟩ := DataW.trod_int Try.underlying3 h1
  simp only [List.cons.injEq, and_true] at ha hb
  subst ha hb
  match cs, hl with
  | [c0, c1], _ =>
    simp only [List.getElem?_cons_zero, List.getElem?_cons_succ, Option.some.injEq] at e0 e1
    subst e0 e1
    exact ⟨⟨a, b⟩, rfl⟩
theorem cellsVec : Try.prog.cellsOf 43 = 2 := by kernel_rfl
theorem cellsBox : Try.prog.cellsOf 46 = 4 := by kernel_rfl
theorem cellsLevel : Try.prog.cellsOf 48 = 11 := by kernel_rfl
theorem cellsInt : Try.prog.cellsOf 3 = 1 := by kernel_rfl
theorem cellsBoxS : Try.prog.cellsOf 44 = 1 := by kernel_rfl
theorem elem_Box (h : DataW.trod enc Try.prog w base spare held fuel 46 cs = some y) : ∃ b : Bx, cs = encBx b := by
  obtain ⟨n, hl, hf⟩ := struct_at Try.underlying46 h
  rw [cellsBox] at hl
  obtain ⟨z0, h0⟩ := hf 0 _ rfl
  obtain ⟨z1, h1⟩ := hf 1 _ rfl
  have g0 : DataW.trod enc Try.prog w base spare held n 43 ((cs.drop 0).take (Try.prog.cellsOf 43)) = some z0 := h0
  rw [cellsVec] at g0
  have g1 : DataW.trod enc Try.prog w base spare held n 43 ((cs.drop 2).take (Try.prog.cellsOf 43)) = some z1 := h1
  rw [cellsVec] at g1
  clear h0 h1 hf h
  match cs, hl with
  | [c0, c1, c2, c3], _ =>
    simp only [List.drop_zero, List.drop_succ_cons, List.take_succ_cons, List.take_zero] at g0 g1
    obtain ⟨u, hu⟩ := elem_Vec g0
    obtain ⟨v, hv⟩ := elem_Vec g1
    simp only [encV2, List.cons.injEq, and_true] at hu hv
    obtain ⟨rfl, rfl⟩ := hu
    obtain ⟨rfl, rfl⟩ := hv
    exact ⟨⟨u, v⟩, rfl⟩
set_option maxRecDepth 100000 in
theorem open_boxes {A : Option Addr} {n c : Nat} {d : DataW H} {ps : List MemPlace} (h : DataW.Trod enc Try.prog w base spare held 44 (.slice A n c) d ps) :
    ∃ l : List Bx, Sl w 4 encBx A n l ∧ (∀ x ∈ l, True) ∧ (n ≤ c ∧ c ≤ 9223372036854775807) :=
  open_sl (good := fun _ => True) Try.underlying44 (by kernel_rfl) (by omega) encBx_len (fun _ _ _ hy => by obtain ⟨b, hb⟩ := elem_Box hy; exact ⟨b, hb, trivial⟩) h
set_option maxRecDepth 100000 in
theorem open_level {r : Reach} {b0 : Nat} {v : Value} {d : DataW H} {ps : List MemPlace} (hv : Value.okWide Try.prog w r b0 48 v) (h : DataW.Trod enc Try.prog w base spare held 48 v d ps) :
    ∃ (l : Lev) (A A' : Option Addr) (c c' : Nat), v = .agg #[.int .i64 l.id, .int .i64 l.ticks, .int .i64 l.start.x, .int .i64 l.start.y, .slice A l.walls.length c, .slice A' l.gates.length c', .int .i64 l.fin.lo.x, .int .i64 l.fin.lo.y, .int .i64 l.fin.hi.x, .int .i64 l.fin.hi.y, .int .i64 l.bans] ∧ Sl w 4 encBx A l.walls.length l.walls ∧ Sl w 4 encBx A' l.gates.length l.gates ∧ l.walls.length ≤ 9223372036854775807 ∧ l.gates.length ≤ 9223372036854775807 := by
  obtain ⟨cs, rfl, hsz⟩ := okWide_struct Try.underlying48 hv
  obtain ⟨l⟩ := cs
  obtain ⟨fuel, hf0⟩ := h
  obtain ⟨n, hl, hf⟩ := struct_at Try.underlying48 hf0
  rw [cellsLevel] at hl
  have hl' : l.length = 11 := by simpa [Value.cells] using hl
  obtain ⟨z0, h0⟩ := hf 0 _ rfl
  obtain ⟨z1, h1⟩ := hf 1 _ rfl
  obtain ⟨z2, h2⟩ := hf 2 _ rfl
  obtain ⟨z3, h3⟩ := hf 3 _ rfl
  obtain ⟨z4, h4⟩ := hf 4 _ rfl
  obtain ⟨z5, h5⟩ := hf 5 _ rfl
  obtain ⟨z6, h6⟩ := hf 6 _ rfl
  have g0 : DataW.trod enc Try.prog w base spare held n 3 ((l.drop 0).take (Try.prog.cellsOf 3)) = some z0 := h0
  rw [cellsInt] at g0
  have g1 : DataW.trod enc Try.prog w base spare held n 3 ((l.drop 1).take (Try.prog.cellsOf 3)) = some z1 := h1
  rw [cellsInt] at g1
  have g2 : DataW.trod enc Try.prog w base spare held n 43 ((l.drop 2).take (Try.prog.cellsOf 43)) = some z2 := h2
  rw [cellsVec] at g2
  have g3 : DataW.trod enc Try.prog w base spare held n 44 ((l.drop 4).take (Try.prog.cellsOf 44)) = some z3 := h3
  rw [cellsBoxS] at g3
  have g4 : DataW.trod enc Try.prog w base spare held n 44 ((l.drop 5).take (Try.prog.cellsOf 44)) = some z4 := h4
  rw [cellsBoxS] at g4
  have g5 : DataW.trod enc Try.prog w base spare held n 46 ((l.drop 6).take (Try.prog.cellsOf 46)) = some z5 := h5
  rw [cellsBox] at g5
  have g6 : DataW.trod enc Try.prog w base spare held n 3 ((l.drop 10).take (Try.prog.cellsOf 3)) = some z6 := h6
  rw [cellsInt] at g6
  clear h0 h1 h2 h3 h4 h5 h6 hf hf0
  match l, hl' with
  | [c0, c1, c2, c3, c4, c5, c6, c7, c8, c9, c10], _ =>
    simp only [List.drop_zero, List.drop_succ_cons, List.take_succ_cons, List.take_zero] at g0 g1 g2 g3 g4 g5 g6
    obtain ⟨a0, i0, _, _⟩ := DataW.trod_int Try.underlying3 g0
    obtain ⟨a1, i1, _, _⟩ := DataW.trod_int Try.underlying3 g1
    obtain ⟨u2, i2⟩ := elem_Vec g2
    obtain ⟨A, n3, c, i3, t3⟩ := trod1_slice Try.underlying44 g3
    obtain ⟨A', n4, c', i4, t4⟩ := trod1_slice Try.underlying44 g4
    obtain ⟨b5, i5⟩ := elem_Box g5
    obtain ⟨a6, i6, _, _⟩ := DataW.trod_int Try.underlying3 g6
    simp only [encV2, encBx, List.cons.injEq, and_true] at i0 i1 i2 i5 i6
    subst i0 i1 i3 i4 i6
    obtain ⟨rfl, rfl⟩ := i2
    obtain ⟨rfl, rfl, rfl, rfl⟩ := i5
    obtain ⟨ws, s3, _, m3⟩ := open_boxes t3
    obtain ⟨gs, s4, _, m4⟩ := open_boxes t4
    obtain rfl := s3.len
    obtain rfl := s4.len
    exact ⟨⟨a0, a1, u2, ws, gs, b5, a6⟩, A, A', c, c', rfl, s3, s4, Nat.le_trans m3.1 m3.2, Nat.le_trans m4.1 m4.2⟩
end
end Go.Proofs.Ytmfhfebakdkkdaa
