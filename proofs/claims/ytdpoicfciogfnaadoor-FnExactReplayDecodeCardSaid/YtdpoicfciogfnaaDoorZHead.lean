/- Lemmas: Frame Open Eng OpenL EngP. -/
import Derived.Test.YtdpoicfciogfnaaDoorZBase
import Derived.SizedLaws
import Derived.Lib.SmallJoins
import Derived.Deep.Slices
import Derived.Deep.Fields
import Derived.ChangeSame
import Derived.Conc.Holds
/- From a law's walk to its row: one theorem for every law of this seat; the arguments opened. -/
namespace Go.Proofs.YtdpoicfciogfnaaDoor
open Go.ChangeShapes Go.WideShapes Go.ChangeAt Go.RowKit Go.Joins Go.Deep
theorem own : ownKnob Tryd.prog.godebug = none := by kernel_rfl
theorem laidOut : laidOutB Tryd.prog = true := by kernel_rfl

section
variable {H : Type} {enc : TypeId × Value → H}
theorem below_trodAll {P : Program} (hl : laidOutB P = true) {W W' : World} (hb : Below W.heap.size W W') : ∀ (ts : List TypeId) (vs : List Value) (ds : List (DataW H)) (ps : List MemPlace),
    ts.all (fun t => P.readableRec t && decide (t < P.types.size)) = true → DataW.TrodAll enc P W 0 (fun _ => true) true ts vs ds ps → (∀ x ∈ ps, x.block < W.heap.size) →
    DataW.TrodAll enc P W' 0 (fun b => decide (b < W.heap.size)) true ts vs ds ps
  | [], vs, ds, ps, _, h, _ => by
    obtain ⟨rfl, rfl, rfl⟩ := trodAll_nil h
    exact trodAll_mk0
  | t :: ts, vs, ds, ps, hr, h, hlt => by
    obtain ⟨v, vs', d, ds', p, q, rfl, rfl, rfl, h0, h1⟩ := trodAll_cons h
    simp only [List.all_cons, Bool.and_eq_true, decide_eq_true_eq] at hr
    exact trodAll_cons_mk (Below.trod hl hr.1.1 hr.1.2 h0 hb fun x hx => hlt x (List.mem_append.2 (.inl hx)))
      (below_trodAll hl hb ts vs' ds' q hr.2 h1 fun x hx => hlt x (List.mem_append.2 (.inr hx)))

/-- What a law's row says of a call that came to true and turned nothing that was there. -/
theorem law_post {P : Program} {fn : Func} {s : ChangeSpec} {tb : TypeId} (hl : laidOutB P = true) (hread : fn.params.toList.all (fun t => P.readableRec t && decide (t < P.types.size)) = true) (hrt : fn.resultTypes = #[tb]) (htb : P.underlying tb = some .bool)
    (hvars : s.vars = []) {ds : List (DataW H)} (hs : s.fn H ds = { results := [.lit (.bool true)], args := ds }) {W W' : World} {args : Array Value} {gs : List (DataW H)} {before : List MemPlace}
    (hW : DataW.Whole enc P fn.params.toList s.vars false W args.toList ds gs before) (hb : Below W.heap.size W W') :
    s.post enc P fn false true false false W args (.bool true) W' := by
  have hW0 := hW
  obtain ⟨p, q, hA, hV, rfl, _, _⟩ := hW
  rw [hvars] at hV
  obtain ⟨rfl, rfl⟩ := trodVars_none hV
  have hlt : ∀ x ∈ p, x.block < W.heap.size := fun x hx => by simpa using hW0.lt x (List.mem_append.2 (.inl hx))
  have e : s.fn H (ds ++ []) = { results := [.lit (.bool true)], args := ds } := by rw [List.append_nil]; exact hs
  refine ⟨ds, [], _, [], p, [], hW0, ?_, ?_, ?_, hb.frame _, fun h => by cases h⟩
  · rw [e, hrt]
    exact trodAll_mk1 (shut_bool htb true)
  · rw [e]
    exact below_trodAll hl hb _ _ _ _ hread hA hlt
  · rw [e, hvars]
    rfl
end

/-- What a law's walk must come to. -/
def LawWalk (f : FuncId) (fn : Func) : Prop :=
  ∀ (H : Type) (enc : TypeId × Value → H) (W : World) (base : Nat) (args : Array Value) (ds : List (DataW H)) (ps : List MemPlace),
    (∀ (j : Nat) t v, fn.params[j]? = some t → args[j]? = some v → Value.okWide Tryd.prog W .any base t v) →
    DataW.TrodAll enc Tryd.prog W 0 (fun _ => true) true fn.params.toList args.toList ds ps → (∀ x ∈ ps, x.block < W.heap.size) →
    (DataW.weightsEach Tryd.prog fn.params.toList ds).all (· ≤ reachBytes) = true →
    Calls Tryd.prog f args W fun e W' => e = .returned (.bool true) ∧ Below W.heap.size W W'

set_option maxRecDepth 100000 in
theorem law_lifted {f : FuncId} {fn : Func} {s : ChangeSpec} {tb : TypeId} (os : Os) (started : os.Started) (H : Type) (enc : TypeId × Value → H)
    (noInit : Tryd.checked.prog.inits.idxOf? f = none) (hfn : Tryd.prog.funcs[f]? = some fn) (hread : fn.params.toList.all (fun t => Tryd.prog.readableRec t && decide (t < Tryd.prog.types.size)) = true) (hrt : fn.resultTypes = #[tb]) (htb : Tryd.prog.underlying tb = some .bool)
    (hvars : s.vars = []) (hs : ∀ ds : List (DataW H), ds.length = fn.params.size → s.fn H ds = { results := [.lit (.bool true)], args := ds })
    (witness : ∃ (w : World) (tape : Tape) (i : Input), w.os = os ∧ (w.forCall tape i).Shaped Tryd.checked.prog ∧ i.vars = [] ∧ Input.okWide Tryd.checked.prog (w.forCall tape i) .any w.heap.size f i ∧
      s.pre6 enc Tryd.checked.prog fn [] false (w.forCall tape i).memory i.args ∧ ({} : Assume).holds Tryd.checked.prog (lone (Frame.enter Tryd.checked.prog f i.args .normal) [] (w.forCall tape i)))
    (walk : LawWalk f fn) : ReturnsInHanded {} Tryd.checked os f .any (s.pre6 enc Tryd.prog fn [] false) (s.post enc Tryd.prog fn false true false false) := by
  refine returnsInHanded_of_change_sized (C := Tryd.checked) own started noInit hfn witness ?_
  intro W base args ds gs before hval hW _ hsz _
  have hW0 := hW
  obtain ⟨p, q, hA, hV, rfl, _, _⟩ := hW
  have hV0 := hV
  rw [hvars] at hV0
  obtain ⟨rfl, rfl⟩ := trodVars_none hV0
  have hlen : ds.length = fn.params.size := by
    have : ∀ (ts : List TypeId) (vs : List Value) (ds : List (DataW H)) (ps : List MemPlace), DataW.TrodAll enc Tryd.prog W 0 (fun _ => true) true ts vs ds ps → ds.length = ts.length := by
      intro ts
      induction ts with
      | nil => intro vs ds ps h; obtain ⟨_, rfl, _⟩ := trodAll_nil h; rfl
      | cons t ts ih =>
        intro vs ds ps h
        obtain ⟨v, vs', d, ds', p, q, _, rfl, _, _, h1⟩ := trodAll_cons h
        simp [ih _ _ _ h1]
    have h := this _ _ _ _ hA
    simpa using h
  have hsz' : (DataW.weightsEach Tryd.prog fn.params.toList ds).all (· ≤ reachBytes) = true := by
    have e : s.plain.varTypes Tryd.checked.prog = [] := by
      have : s.plain.vars = [] := hvars
      simp [DataSpec.varTypes, this]
    have hsz0 := hsz
    rw [e, List.append_nil, List.append_nil] at hsz0
    exact hsz0
  have hlt : ∀ x ∈ p, x.block < W.heap.size := fun x hx => by simpa using hW0.lt x (List.mem_append.2 (.inl hx))
  refine (walk H enc W base args ds p hval hA hlt hsz').mono fun e W' ⟨he, hb⟩ => ?_
  subst he
  exact ⟨_, rfl, law_post laidOut hread hrt htb hvars (hs ds hlen) hW0 hb⟩
end Go.Proofs.YtdpoicfciogfnaaDoor

/- A law's arguments opened: slices of ints, bytes, inputs, parts; replays. -/
namespace Go.Proofs.YtdpoicfciogfnaaDoor
open Go.ChangeShapes Go.WideShapes Go.ChangeAt Go.RowKit Go.Joins Go.Deep
theorem skolem_lt {α : Type} {n : Nat} {p : Nat → α → Prop} (h : ∀ i, i < n → ∃ x, p i x) : ∃ l : List α, l.length = n ∧ ∀ i x, l[i]? = some x → p i x := by
  induction n with
  | zero => exact ⟨[], rfl, fun i x hx => by simp at hx⟩
  | succ n ih =>
    obtain ⟨l, hl, hp⟩ := ih fun i hi => h i (by omega)
    obtain ⟨x, hx⟩ := h n (by omega)
    refine ⟨l ++ [x], by simp [hl], fun i y hy => ?_⟩
    by_cases hi : i < n
    · rw [List.getElem?_append_left (by omega)] at hy
      exact hp i y hy
    · rw [List.getElem?_append_right (by omega)] at hy
      have h0 : i - l.length = 0 := by
        have := (List.getElem?_eq_some_iff.1 hy).1
        simp at this
        omega
      rw [h0] at hy
      simp only [List.getElem?_cons_zero, Option.some.injEq] at hy
      subst hy
      have : i = n := by omega
      subst this
      exact hx

section
variable {H : Type} {enc : TypeId × Value → H} {w : World} {base : Nat} {spare : Nat → Bool} {held : Bool}
theorem open_sl {P : Program} {α : Type} {t e : TypeId} {sz : Nat} {ec : α → List Value} {good : α → Prop} (ht : P.underlying t = some (.slice e)) (hC : P.cellsOf e = sz) (hpos : 0 < sz) (hlen : ∀ x, (ec x).length = sz)
    (helem : ∀ fuel cs y, DataW.trod enc P w base spare held fuel e cs = some y → ∃ x, cs = ec x ∧ good x) {A : Option Addr} {n c : Nat} {d : DataW H} {ps : List MemPlace}
    (h : DataW.Trod enc P w base spare held t (.slice A n c) d ps) : ∃ l : List α, Sl w sz ec A n l ∧ (∀ x ∈ l, good x) ∧ (n ≤ c ∧ c ≤ 9223372036854775807) := by
  obtain ⟨fuel, hf⟩ := h
  rcases open_slice ht hf with ⟨hcs, _⟩ | ⟨a, len, cap, m, k, D, Pl, hcs, _, hl, hm, hmm, _, hi⟩
  · simp only [Value.cells, List.cons.injEq, Value.slice.injEq, and_true] at hcs
    obtain ⟨rfl, rfl, rfl⟩ := hcs
    exact ⟨[], Sl.nil, fun x hx => by simp at hx, by omega, by omega⟩
  · simp only [Value.cells, List.cons.injEq, Value.slice.injEq, and_true] at hcs
    obtain ⟨rfl, rfl, rfl⟩ := hcs
    have hmn : n ≤ m := by rw [hmm]; split <;> omega
    have hex : ∀ i, i < n → ∃ x : α, good x ∧ ∀ j v, (ec x)[j]? = some v → w.cell? (a.add (i * sz + j)) = some v := by
      intro i hin
      obtain ⟨cs', hc, ht'⟩ := hi i (by omega)
      obtain ⟨x, rfl, hg⟩ := helem _ _ _ ht'
      obtain ⟨_, hcl, hat⟩ := World.cells?_some hc
      rw [hC] at hat hcl
      refine ⟨x, hg, fun j v hv => ?_⟩
      rw [← Go.Deep.add_add, ← hv]
      exact hat j (by have := (List.getElem?_eq_some_iff.1 hv).1; omega)
    obtain ⟨l, hll, hlp⟩ := skolem_lt hex
    refine ⟨l, ⟨hll, fun hpos2 => ?_⟩, fun x hx => ?_, hl, by unfold maxLen at hm; omega⟩
    · obtain ⟨b, off, spot⟩ := a
      have hx0 : l[0]? = some (l[0]'(by omega)) := List.getElem?_eq_getElem _
      have hv0 : (ec (l[0]'(by omega)))[0]? = some ((ec (l[0]'(by omega)))[0]'(by rw [hlen]; omega)) := List.getElem?_eq_getElem _
      have hc0 := (hlp 0 _ hx0).2 0 _ hv0
      have hadd0 : (⟨b, off, spot⟩ : Addr).add (0 * sz + 0) = ⟨b, off, spot⟩ := by simp [Addr.add]
      rw [hadd0] at hc0
      have hs : spot = none := World.cell?_spot hc0
      subst hs
      refine ⟨b, off, rfl, World.block_lt_of_cell? w _ hc0, fun k x hk j v hv => ?_⟩
      have := (hlp k x hk).2 j v hv
      rwa [add_plain, ← Nat.add_assoc] at this
    · obtain ⟨i, hi'⟩ := List.getElem?_of_mem hx
      exact (hlp i x hi').1
end

section
variable {H : Type} {enc : TypeId × Value → H} {P : Program} {w : World} {base : Nat} {spare : Nat → Bool} {held : Bool} {fuel : Nat} {e : TypeId} {cs : List Value} {y : DataW H × List MemPlace}
theorem elem_int (he : P.underlying e = some (.int .i64)) (h : DataW.trod enc P w base spare held fuel e cs = some y) : ∃ x : Int, cs = encInt x ∧ (Lit.int .i64 x).wf = true := by
  obtain ⟨n, rfl, _, hw⟩ := DataW.trod_int he h
  exact ⟨n, rfl, hw⟩
theorem elem_u8 (he : P.underlying e = some (.int .u8)) (h : DataW.trod enc P w base spare held fuel e cs = some y) : ∃ x : Int, cs = encU8 x ∧ (Lit.int .u8 x).wf = true := by
  obtain ⟨n, rfl, _, hw⟩ := DataW.trod_int he h
  exact ⟨n, rfl, hw⟩
/-- The fields of a struct of one-cell fields, each read by itself. -/
theorem elem_fields {fs : Array Field} (he : P.underlying e = some (.struct fs)) (hone : oneCellFields P fs = true) (hC : P.cellsOf e = fs.size) (h : DataW.trod enc P w base spare held fuel e cs = some y) :
    ∃ n, cs.length = fs.size ∧ ∀ (j : Nat) (f : Field), fs[j]? = some f → ∃ v z, cs[j]? = some v ∧ DataW.trod enc P w base spare held n f.type [v] = some z := by
  obtain ⟨xs, n, _, _, hlen, hxl, hf⟩ := DataW.trod_struct he h
  refine ⟨n, hlen.trans hC, fun j f hj => ?_⟩
  obtain ⟨ho, hk⟩ := hone_of hone j f hj
  have hjl : j < fs.size := (Array.getElem?_eq_some_iff.1 hj).1
  have h1 := hf j f hj
  rw [ho, hk] at h1
  have hl : j < cs.length := by rw [hlen, hC]; exact hjl
  have hone' : (cs.drop j).take 1 = [cs[j]'hl] := by
    rw [List.drop_eq_getElem_cons hl]
    rfl
  rw [hone'] at h1
  exact ⟨cs[j]'hl, xs[j]'(by omega), List.getElem?_eq_getElem hl, h1.trans (List.getElem?_eq_getElem (by omega))⟩
end

section
variable {H : Type} {enc : TypeId × Value → H} {w : World} {base : Nat} {spare : Nat → Bool} {held : Bool}
def goodInt (x : Int) : Prop := (Lit.int .i64 x).wf = true
def goodInp (x : Inp) : Prop := goodInt x.s ∧ goodInt x.p
def goodPrt (x : Prt) : Prop := goodInt x.c ∧ goodInt x.m
def goodU8 (x : Int) : Prop := (Lit.int .u8 x).wf = true
theorem u8_bd {x : Int} (h : goodU8 x) : 0 ≤ x ∧ x < 256 := by
  have := bounds_u8 h
  omega
theorem elem_Input {fuel : Nat} {cs : List Value} {y : DataW H × List MemPlace} (h : DataW.trod enc Tryd.prog w base spare held fuel 70 cs = some y) : ∃ x : Inp, cs = encInp x ∧ goodInp x := by
  obtain ⟨n, hl, hf⟩ := elem_fields Tryd.underlying70 (by kernel_rfl) (by kernel_rfl) h
  obtain ⟨v0, z0, e0, h0⟩ := hf 0 _ rfl
  obtain ⟨v1, z1, e1, h1⟩ := hf 1 _ rfl
  obtain ⟨v2, z2, e2, h2⟩ := hf 2 _ rfl
  obtain ⟨a, ha, _, wa⟩ := DataW.trod_int Tryd.underlying3 h0
  obtain ⟨b, hb, _, wb⟩ := DataW.trod_int Tryd.underlying3 h1
  obtain ⟨c, hc, _⟩ := DataW.trod_bool Tryd.underlying4 h2
  simp only [List.cons.injEq, and_true] at ha hb hc
  subst ha hb hc
  match cs, hl with
  | [c0, c1, c2], _ =>
    simp only [List.getElem?_cons_zero, List.getElem?_cons_succ, Option.some.injEq] at e0 e1 e2
    subst e0 e1 e2
    exact ⟨⟨a, b, c⟩, rfl, wa, wb⟩
set_option maxRecDepth 100000 in
theorem open_inputs {A : Option Addr} {n c : Nat} {d : DataW H} {ps : List MemPlace} (h : DataW.Trod enc Tryd.prog w base spare held 22 (.slice A n c) d ps) :
    ∃ l : List Inp, Sl w 3 encInp A n l ∧ (∀ x ∈ l, goodInp x) ∧ (n ≤ c ∧ c ≤ 9223372036854775807) :=
  open_sl Tryd.underlying22 (by kernel_rfl) (by omega) encInp_len (fun _ _ _ hy => elem_Input hy) h
set_option maxRecDepth 100000 in
theorem open_intS {A : Option Addr} {n c : Nat} {d : DataW H} {ps : List MemPlace} (h : DataW.Trod enc Tryd.prog w base spare held 23 (.slice A n c) d ps) :
    ∃ l : List Int, Sl w 1 encInt A n l ∧ (∀ x ∈ l, goodInt x) ∧ (n ≤ c ∧ c ≤ 9223372036854775807) :=
  open_sl Tryd.underlying23 (by kernel_rfl) (by omega) encInt_len (fun _ _ _ hy => elem_int Tryd.underlying3 hy) h
set_option maxRecDepth 100000 in
theorem open_bytes {A : Option Addr} {n c : Nat} {d : DataW H} {ps : List MemPlace} (h : DataW.Trod enc Tryd.prog w base spare held 34 (.slice A n c) d ps) :
    ∃ l : List Int, Sl w 1 encU8 A n l ∧ (∀ x ∈ l, goodU8 x) ∧ (n ≤ c ∧ c ≤ 9223372036854775807) :=
  open_sl Tryd.underlying34 (by kernel_rfl) (by omega) encU8_len (fun _ _ _ hy => elem_u8 Tryd.underlying5 hy) h
/-- A slice among one-cell fields, shown by its one cell. -/
theorem trod1_slice {P : Program} {t e : TypeId} {n : Nat} {v : Value} {z : DataW H × List MemPlace} (ht : P.underlying t = some (.slice e)) (h : DataW.trod enc P w base spare held n t [v] = some z) :
    ∃ A len c, v = .slice A len c ∧ DataW.Trod enc P w base spare held t (.slice A len c) z.1 z.2 := by
  rcases open_slice ht h with ⟨hcs, _⟩ | ⟨a, len, cap, _, _, _, _, hcs, _⟩
  · simp only [List.cons.injEq, and_true] at hcs
    subst hcs
    exact ⟨_, _, _, rfl, n, h⟩
  · simp only [List.cons.injEq, and_true] at hcs
    subst hcs
    exact ⟨_, _, _, rfl, n, h⟩
set_option maxRecDepth 100000 in
theorem open_replay {r : Reach} {b0 : Nat} {v : Value} {d : DataW H} {ps : List MemPlace} (hv : Value.okWide Tryd.prog w r b0 25 v) (h : DataW.Trod enc Tryd.prog w base spare held 25 v d ps) :
    ∃ (lv pl sc tag : Int) (ins : List Inp) (hs : List Int) (A A' : Option Addr) (c c' : Nat), v = .agg #[.int .i64 lv, .int .i64 pl, .int .i64 sc, .slice A ins.length c, .slice A' hs.length c', .int .i64 tag] ∧
      Sl w 3 encInp A ins.length ins ∧ Sl w 1 encInt A' hs.length hs ∧ ins.length ≤ 9223372036854775807 ∧ hs.length ≤ 9223372036854775807 ∧ (goodInt lv ∧ goodInt pl ∧ goodInt sc ∧ goodInt tag ∧ (∀ x ∈ ins, goodInp x) ∧ (∀ x ∈ hs, goodInt x)) := by
  obtain ⟨cs, rfl, hsz⟩ := okWide_struct Tryd.underlying25 hv
  obtain ⟨l⟩ := cs
  obtain ⟨fuel, hf0⟩ := h
  obtain ⟨n, hl, hf⟩ := elem_fields Tryd.underlying25 (by kernel_rfl) (by kernel_rfl) hf0
  have hl' : l.length = 6 := by simpa [Value.cells] using hl
  obtain ⟨v0, z0, e0, h0⟩ := hf 0 _ rfl
  obtain ⟨v1, z1, e1, h1⟩ := hf 1 _ rfl
  obtain ⟨v2, z2, e2, h2⟩ := hf 2 _ rfl
  obtain ⟨v3, z3, e3, h3⟩ := hf 3 _ rfl
  obtain ⟨v4, z4, e4, h4⟩ := hf 4 _ rfl
  obtain ⟨v5, z5, e5, h5⟩ := hf 5 _ rfl
  obtain ⟨a0, i0, _, w0⟩ := DataW.trod_int Tryd.underlying3 h0
  obtain ⟨a1, i1, _, w1⟩ := DataW.trod_int Tryd.underlying3 h1
  obtain ⟨a2, i2, _, w2⟩ := DataW.trod_int Tryd.underlying3 h2
  obtain ⟨A, n3, c, rfl, t3⟩ := trod1_slice Tryd.underlying22 h3
  obtain ⟨A', n4, c', rfl, t4⟩ := trod1_slice Tryd.underlying23 h4
  obtain ⟨a5, i5, _, w5⟩ := DataW.trod_int Tryd.underlying3 h5
  simp only [List.cons.injEq, and_true] at i0 i1 i2 i5
  subst i0 i1 i2 i5
  obtain ⟨ins, s3, g3, m3⟩ := open_inputs t3
  obtain ⟨hs, s4, g4, m4⟩ := open_intS t4
  obtain rfl := s3.len
  obtain rfl := s4.len
  match l, hl' with
  | [c0, c1, c2, c3, c4, c5], _ =>
    simp only [Value.cells, List.getElem?_cons_zero, List.getElem?_cons_succ, Option.some.injEq] at e0 e1 e2 e3 e4 e5
    subst e0 e1 e2 e3 e4 e5
    exact ⟨a0, a1, a2, a5, ins, hs, A, A', c, c', rfl, s3, s4, Nat.le_trans m3.1 m3.2, Nat.le_trans m4.1 m4.2, w0, w1, w2, w5, g3, g4⟩
end
end Go.Proofs.YtdpoicfciogfnaaDoor

/- The plain engine: vectors, boxes, levels, states, one tick, runs, hashes. No program is named here. -/
namespace Go.Proofs.YtdpoicfciogfnaaDoor
open Go.RowKit

structure V2 where
  x : Int
  y : Int
structure Bx where
  lo : V2
  hi : V2
structure Lev where
  id : Int
  ticks : Int
  start : V2
  walls : List Bx
  gates : List Bx
  fin : Bx
  bans : Int
structure St where
  t : Int
  p : V2
  f : V2
  d : Int
  g : Int
  dn : Bool
  ov : Bool
def encV2 (v : V2) : List Value := [.int .i64 v.x, .int .i64 v.y]
def encBx (b : Bx) : List Value := [.int .i64 b.lo.x, .int .i64 b.lo.y, .int .i64 b.hi.x, .int .i64 b.hi.y]
theorem encV2_len (v : V2) : (encV2 v).length = 2 := rfl
theorem encBx_len (v : Bx) : (encBx v).length = 4 := rfl

/-! ### square roots -/
/-- The greatest number whose square is at most n. -/
def isqN : Nat → Nat
  | 0 => 0
  | n + 1 => if (isqN n + 1) * (isqN n + 1) ≤ n + 1 then isqN n + 1 else isqN n
theorem isqN_spec : ∀ n, isqN n * isqN n ≤ n ∧ n < (isqN n + 1) * (isqN n + 1)
  | 0 => by simp [isqN]
  | n + 1 => by
    obtain ⟨h1, h2⟩ := isqN_spec n
    rw [isqN]
    split
    · rename_i h
      refine ⟨h, ?_⟩
      have e : (isqN n + 1 + 1) * (isqN n + 1 + 1) = (isqN n + 1) * (isqN n + 1) + (2 * isqN n + 3) := by
        simp only [Nat.add_mul, Nat.mul_add, Nat.one_mul, Nat.mul_one]; omega
      omega
    · rename_i h
      exact ⟨by omega, by omega⟩
def isq (n : Int) : Int := (isqN n.toNat : Nat)
theorem isq_spec {n : Int} (h : 0 ≤ n) : 0 ≤ isq n ∧ isq n * isq n ≤ n ∧ n < (isq n + 1) * (isq n + 1) := by
  obtain ⟨m, rfl⟩ := Int.eq_ofNat_of_zero_le h
  obtain ⟨h1, h2⟩ := isqN_spec m
  unfold isq
  rw [Int.toNat_natCast]
  refine ⟨by omega, ?_, ?_⟩
  · exact_mod_cast h1
  · exact_mod_cast h2
theorem sq_le {a b : Int} (ha : 0 ≤ a) (h : a ≤ b) : a * a ≤ b * b := Int.mul_le_mul h h ha (by omega)
theorem sq_lt {a b : Int} (ha : 0 ≤ a) (h : a < b) : a * a < b * b := Int.lt_of_lt_of_le (Int.mul_lt_mul_of_pos_right h (by omega) |> fun h1 => Int.lt_of_le_of_lt (Int.mul_le_mul_of_nonneg_left (by omega) ha) h1) (Int.le_refl _)
theorem lt_of_sq {a b : Int} (hb : 0 ≤ b) (h : a * a < b * b) : a < b := by
  rcases Int.lt_or_le a b with h1 | h1
  · exact h1
  · have := sq_le hb h1; omega
theorem le_of_sq {a b : Int} (hb : 0 ≤ b) (h : a * a ≤ b * b) : a ≤ b := by
  rcases Int.lt_or_le b a with h1 | h1
  · have := sq_lt hb h1; omega
  · exact h1
theorem isq_eq {n r : Int} (hr : 0 ≤ r) (h1 : r * r ≤ n) (h2 : n < (r + 1) * (r + 1)) : isq n = r := by
  have hn : 0 ≤ n := Int.le_trans (Int.mul_nonneg hr hr) h1
  obtain ⟨g0, g1, g2⟩ := isq_spec hn
  have a := lt_of_sq (b := r + 1) (by omega) (Int.lt_of_le_of_lt g1 h2)
  have b := lt_of_sq (b := isq n + 1) (by omega) (Int.lt_of_le_of_lt h1 g2)
  omega
theorem isq_mono {a b : Int} (ha : 0 ≤ a) (h : a ≤ b) : isq a ≤ isq b := by
  obtain ⟨g0, g1, g2⟩ := isq_spec ha
  obtain ⟨k0, k1, k2⟩ := isq_spec (n := b) (by omega)
  have := lt_of_sq (a := isq a) (b := isq b + 1) (by omega) (by omega)
  omega
theorem isq_le {n r : Int} (hn : 0 ≤ n) (hr : 0 ≤ r) (h : n < (r + 1) * (r + 1)) : isq n ≤ r := by
  obtain ⟨g0, g1, g2⟩ := isq_spec hn
  have := lt_of_sq (a := isq n) (b := r + 1) (by omega) (by omega)
  omega
theorem le_isq {n r : Int} (hn : 0 ≤ n) (h : r * r ≤ n) : r ≤ isq n := by
  obtain ⟨g0, g1, g2⟩ := isq_spec hn
  have := lt_of_sq (a := r) (b := isq n + 1) (by omega) (by omega)
  omega

/-! ### vectors -/
def vOk (v : V2) : Bool := inR (-1000000) 1000000 v.x && inR (-1000000) 1000000 v.y
theorem vOk_iff {v : V2} : vOk v = true ↔ -1000000 ≤ v.x ∧ v.x ≤ 1000000 ∧ -1000000 ≤ v.y ∧ v.y ≤ 1000000 := by
  simp [vOk, inR_iff, and_assoc]
def mul1 (a b : Int) : Int := (a * b).tdiv 1000
def scaleV (v : V2) (k : Int) : V2 := ⟨mul1 v.x k, mul1 v.y k⟩
def len2 (v : V2) : Int := v.x * v.x + v.y * v.y
def lenV (v : V2) : Int := isq (len2 v)
def dirT : List Int := [1000, 924, 707, 383, 0, -383, -707, -924, -1000, -924, -707, -383, 0, 383, 707, 924]
def dirV (d : Int) : V2 := ⟨dirT.getD d.toNat 0, dirT.getD ((d + 12) % 16).toNat 0⟩
def clampV (v : V2) (m : Int) : V2 := if lenV v ≤ m then v else ⟨(v.x * m).tdiv (lenV v), (v.y * m).tdiv (lenV v)⟩

/-! ### boxes and levels -/
def bxOk (b : Bx) : Bool := vOk b.lo && (vOk b.hi && (decide (b.lo.x ≤ b.hi.x) && decide (b.lo.y ≤ b.hi.y)))
def hasV (b : Bx) (v : V2) : Bool := inR b.lo.x b.hi.x v.x && inR b.lo.y b.hi.y v.y
def nearV (b : Bx) (v : V2) : V2 := ⟨max b.lo.x (min v.x b.hi.x), max b.lo.y (min v.y b.hi.y)⟩
def touchB (b : Bx) (v : V2) (r : Int) : Bool := decide ((v.x - (nearV b v).x) * (v.x - (nearV b v).x) + (v.y - (nearV b v).y) * (v.y - (nearV b v).y) ≤ r * r)
def freeB (l : Lev) (v : V2) : Bool := l.walls.all fun b => !touchB b v 500
def boxesB (l : List Bx) : Bool := l.all bxOk
def levOk (l : Lev) : Bool :=
  inR 0 99 l.id && (inR 1 60 l.ticks && (vOk l.start && (decide (l.walls.length ≤ 4) && (boxesB l.walls && (decide (l.gates.length ≤ 3) && (boxesB l.gates && (bxOk l.fin && (inR 0 3 l.bans && freeB l l.start))))))))
def banB (l : Lev) (b : Int) : Bool := l.bans / b % 2 == 1
def folB (l : Lev) (s : Int) (x : Inp) : Bool := inpOk x && (!(x.z && banB l 2) && (!(x.p == 2 && banB l 1) && inR (-1) 1 (x.s - s)))

/-- Coordinates from which no square leaves the range of int. -/
def bdV (v : V2) : Prop := -100000000 ≤ v.x ∧ v.x ≤ 100000000 ∧ -100000000 ≤ v.y ∧ v.y ≤ 100000000
def bdBx (b : Bx) : Prop := bdV b.lo ∧ bdV b.hi
theorem sq_bd {a : Int} (h : -200000000 ≤ a ∧ a ≤ 200000000) : 0 ≤ a * a ∧ a * a ≤ 40000000000000000 := by
  have h1 := Int.mul_le_mul_of_nonneg_right (a := -200000000) (b := a) (c := 200000000 + a) h.1 (by omega)
  have h2 := Int.mul_nonneg (a := 200000000 - a) (b := 200000000 + a) (by omega) (by omega)
  have e1 : (200000000 - a) * (200000000 + a) = 40000000000000000 - a * a := by
    rw [Int.sub_mul, Int.mul_add, Int.mul_add, Int.mul_comm a 200000000]; omega
  have h3 : 0 ≤ a * a := by
    rcases Int.le_total 0 a with h | h
    · exact Int.mul_nonneg h h
    · exact Int.mul_nonneg_of_nonpos_of_nonpos h h
  omega
theorem near_bd {b : Bx} {v : V2} (hb : bdBx b) (hv : bdV v) : bdV (nearV b v) := by
  obtain ⟨h1, h2⟩ := hb
  unfold bdV at *
  simp only [nearV]
  omega

/-! ### legal inputs -/
def pausesOf (ins : List Inp) : Int := ((ins.filter fun x => x.z).length : Nat)
def steerOf (ins : List Inp) : Int := (ins.getLast?.map (·.s)).getD 0
def badAt (l : Lev) (ins : List Inp) (k : Nat) : Bool :=
  match ins[k]? with
  | none => false
  | some x => decide (l.ticks ≤ k) || (decide (3 < pausesOf (ins.take (k + 1))) || !folB l (steerOf (ins.take k)) x)
def legal (l : Lev) (ins : List Inp) : Int := (((List.range ins.length).find? (badAt l ins)).map fun k => (k : Int)).getD (-1)
theorem legal_at {l : Lev} {ins : List Inp} {k : Nat} (hk : k < ins.length) (h : ∀ j, j < k → badAt l ins j = false) (hb : badAt l ins k = true) : legal l ins = k := by
  unfold legal
  have : (List.range ins.length).find? (badAt l ins) = some k := by
    rw [List.find?_range_eq_some]
    exact ⟨hb, by simpa using hk, fun j hj => by simp [h j hj]⟩
  rw [this]; rfl
theorem legal_none {l : Lev} {ins : List Inp} (h : ∀ j, j < ins.length → badAt l ins j = false) : legal l ins = -1 := by
  unfold legal
  have : (List.range ins.length).find? (badAt l ins) = none := by
    rw [List.find?_eq_none]
    intro j hj
    rw [List.mem_range] at hj
    simp [h j hj]
  rw [this]; rfl
theorem legal_cases (l : Lev) (ins : List Inp) : (legal l ins = -1 ∧ ∀ j, j < ins.length → badAt l ins j = false) ∨ ∃ k : Nat, k < ins.length ∧ legal l ins = k ∧ badAt l ins k = true ∧ ∀ j, j < k → badAt l ins j = false := by
  unfold legal
  cases e : (List.range ins.length).find? (badAt l ins) with
  | none =>
    left
    refine ⟨rfl, fun j hj => ?_⟩
    have := List.find?_eq_none.1 e j (List.mem_range.2 hj)
    simpa using this
  | some k =>
    right
    rw [List.find?_range_eq_some] at e
    obtain ⟨h1, h2, h3⟩ := e
    exact ⟨k, by simpa using h2, rfl, h1, fun j hj => by simpa using h3 j hj⟩
def runOk (l : Lev) (ins : List Inp) : Bool := levOk l && decide (legal l ins < 0)

/-! ### one tick -/
def st0 (l : Lev) : St := ⟨0, l.start, ⟨0, 0⟩, 0, 0, false, false⟩
def ownB (s : St) : Bool := inR 0 60 s.t && (vOk s.p && (vOk s.f && (decide (lenV s.f ≤ 2000) && (inR 0 15 s.d && (inR 0 3 s.g && !(s.dn && s.ov))))))
def validB (l : Lev) (s : St) : Bool := levOk l && (ownB s && (decide (s.t ≤ l.ticks) && (decide (s.g ≤ (l.gates.length : Int)) && (freeB l s.p && (!s.dn || s.g == (l.gates.length : Int))))))
def fastV (f : V2) (d pw : Int) : V2 :=
  if pw = 1 then clampV ⟨f.x + (scaleV (dirV d) 200).x, f.y + (scaleV (dirV d) 200).y⟩ 2000 else if pw = 2 then scaleV f 700 else scaleV f 950
/-- Along X, then along Y: the place and how fast the car is after a move. -/
def moveX (l : Lev) (p f : V2) : V2 × V2 := if freeB l ⟨p.x + f.x, p.y⟩ then (⟨p.x + f.x, p.y⟩, f) else (p, ⟨-(f.x.tdiv 2), f.y⟩)
def moveY (l : Lev) (p f : V2) : V2 × V2 := if freeB l ⟨p.x, p.y + f.y⟩ then (⟨p.x, p.y + f.y⟩, f) else (p, ⟨f.x, -(f.y.tdiv 2)⟩)
def moveV (l : Lev) (p f : V2) : V2 × V2 := moveY l (moveX l p f).1 (moveX l p f).2
def gateB (l : Lev) (g : Int) (p : V2) : Bool := match l.gates[g.toNat]? with
  | some b => decide (0 ≤ g) && hasV b p
  | none => false
def turnOf (d s : Int) : Int := (d + s + 16) % 16
def driveS (l : Lev) (s : St) (x : Inp) : St :=
  let d := turnOf s.d x.s
  let m := moveV l s.p (fastV s.f d x.p)
  let g := if gateB l s.g m.1 then s.g + 1 else s.g
  if vOk m.1 then ⟨s.t, m.1, m.2, d, g, g == (l.gates.length : Int) && hasV l.fin m.1, false⟩ else ⟨s.t, s.p, s.f, s.d, s.g, s.dn, true⟩
def stepS (l : Lev) (s : St) (x : Inp) : St :=
  if s.dn || s.ov then s else if x.z then ⟨s.t + 1, s.p, s.f, s.d, s.g, s.dn, s.ov⟩ else driveS l ⟨s.t + 1, s.p, s.f, s.d, s.g, s.dn, s.ov⟩ x
def runTo (l : Lev) (ins : List Inp) (n : Nat) : St := (ins.take n).foldl (stepS l) (st0 l)
theorem runTo_zero (l : Lev) (ins : List Inp) : runTo l ins 0 = st0 l := rfl
theorem runTo_succ {l : Lev} {ins : List Inp} {k : Nat} {x : Inp} (hx : ins[k]? = some x) : runTo l ins (k + 1) = stepS l (runTo l ins k) x := by
  unfold runTo
  rw [List.take_add_one, hx, List.foldl_append]; rfl
theorem runTo_take {l : Lev} {ins : List Inp} {n k : Nat} (h : k ≤ n) : runTo l (ins.take n) k = runTo l ins k := by
  unfold runTo
  rw [List.take_take, Nat.min_eq_left h]

/-! ### hashes -/
def hstep (h n : Int) : Int := (8191 * h + n % 1000003 + 1) % 1000003
def hashL (h : Int) (l : List Int) : Int := l.foldl hstep h
def flagOf (s : St) : Int := (if s.dn then 1 else 0) + (if s.ov then 2 else 0)
def hashS (s : St) : Int := hashL 17 [s.t, s.p.x, s.p.y, s.f.x, s.f.y, s.d, s.g, flagOf s]
theorem hstep_bd (h n : Int) : 0 ≤ hstep h n ∧ hstep h n ≤ 1000002 := by unfold hstep; omega
theorem hashL_take {h : Int} {l : List Int} {k : Nat} {x : Int} (hx : l[k]? = some x) : hashL h (l.take (k + 1)) = hstep (hashL h (l.take k)) x := by
  unfold hashL
  rw [List.take_add_one, hx, List.foldl_append]; rfl
theorem hashL_bd {h : Int} (h0 : 0 ≤ h ∧ h ≤ 1000002) : ∀ (l : List Int), 0 ≤ hashL h l ∧ hashL h l ≤ 1000002
  | [] => h0
  | x :: l => hashL_bd (hstep_bd h x) l
def hashesTo (l : Lev) (ins : List Inp) (k : Nat) : List Int := (List.range k).map fun i => hashS (runTo l ins (5 * (i + 1)))
def hashesR (l : Lev) (ins : List Inp) : List Int := if runOk l ins then hashesTo l ins (ins.length / 5) else []
theorem hashesTo_succ (l : Lev) (ins : List Inp) (k : Nat) : hashesTo l ins (k + 1) = hashesTo l ins k ++ [hashS (runTo l ins (5 * (k + 1)))] := by
  unfold hashesTo; rw [List.range_succ, List.map_append]; rfl
theorem hashesTo_len (l : Lev) (ins : List Inp) (k : Nat) : (hashesTo l ins k).length = k := by simp [hashesTo]
def fixB (n : Int) : Bool := inR (-2000000000) 2000000000 n
def tagL (key : Int) (l : List Int) : Int := hstep (hashL (hstep 17 key) l) key
def listB (l : List Int) : Bool := l.all fixB && decide (l.length ≤ 200)
def tagOf (key : Int) (l : List Int) : Int := if inR 1 9999 key && listB l then tagL key l else -1
def scoreR (l : Lev) (ins : List Inp) : Int := if runOk l ins then (if (runTo l ins ins.length).dn then (runTo l ins ins.length).t else -1) else -1
end Go.Proofs.YtdpoicfciogfnaaDoor

/- A law's arguments opened: levels. (Round B) -/
namespace Go.Proofs.YtdpoicfciogfnaaDoor
open Go.ChangeShapes Go.WideShapes Go.ChangeAt Go.RowKit Go.Joins Go.Deep
section
variable {H : Type} {enc : TypeId × Value → H} {w : World} {base : Nat} {spare : Nat → Bool} {held : Bool} {fuel : Nat} {cs : List Value} {y : DataW H × List MemPlace}
theorem struct_at {P : Program} {e : TypeId} {fs : Array Field} (he : P.underlying e = some (.struct fs)) (h : DataW.trod enc P w base spare held fuel e cs = some y) :
    ∃ n, cs.length = P.cellsOf e ∧ ∀ (j : Nat) (f : Field), fs[j]? = some f → ∃ z, DataW.trod enc P w base spare held n f.type ((cs.drop f.offset).take (P.cellsOf f.type)) = some z := by
  obtain ⟨xs, n, _, _, hlen, hxl, hf⟩ := DataW.trod_struct he h
  refine ⟨n, hlen, fun j f hj => ?_⟩
  have hjl : j < fs.size := (Array.getElem?_eq_some_iff.1 hj).1
  exact ⟨xs[j]'(by omega), (hf j f hj).trans (List.getElem?_eq_getElem (by omega))⟩
theorem cellsInt : Tryd.prog.cellsOf 3 = 1 := by kernel_rfl
end
end Go.Proofs.YtdpoicfciogfnaaDoor

/- Plain laws of the engine: how fast the car can be, and that a tick keeps a state valid. No program is named here. -/
namespace Go.Proofs.YtdpoicfciogfnaaDoor
open Go.RowKit
theorem sq_abs {a c : Int} (h : a.natAbs ≤ c.natAbs) : a * a ≤ c * c := by
  have h1 := Nat.mul_le_mul h h
  rw [← Int.natAbs_mul_self (a := a), ← Int.natAbs_mul_self (a := c)]
  exact_mod_cast h1
theorem sq_nn (a : Int) : 0 ≤ a * a := by
  rw [← Int.natAbs_mul_self (a := a)]
  exact Int.natCast_nonneg _
theorem tdiv_abs (a b : Int) : (a.tdiv b).natAbs ≤ a.natAbs := by
  rw [Int.natAbs_tdiv]
  exact Nat.div_le_self _ _
theorem mul1_abs {a k : Int} (h0 : 0 ≤ k) (h1 : k ≤ 1000) : (mul1 a k).natAbs ≤ a.natAbs := by
  unfold mul1
  rw [Int.natAbs_tdiv, Int.natAbs_mul]
  refine Nat.div_le_of_le_mul ?_
  have h2 : k.natAbs ≤ 1000 := by omega
  have h3 := Nat.mul_le_mul_left a.natAbs h2
  have h4 : (1000 : Int).natAbs = 1000 := rfl
  rw [h4, Nat.mul_comm 1000]
  exact h3
theorem mul1_mono {a k m : Int} (h0 : 0 ≤ k) (h1 : k ≤ m) : (mul1 a k).natAbs ≤ (mul1 a m).natAbs := by
  unfold mul1
  rw [Int.natAbs_tdiv, Int.natAbs_mul, Int.natAbs_tdiv, Int.natAbs_mul]
  exact Nat.div_le_div_right (Nat.mul_le_mul_left _ (by omega))
theorem nab_sq (a : Int) : (a.natAbs : Int) * (a.natAbs : Int) = a * a := by
  rw [← Int.natAbs_mul_self (a := a)]
  exact_mod_cast rfl
theorem mmmm (a b c d : Int) : (a * b) * (c * d) = (a * c) * (b * d) := by
  rw [Int.mul_assoc, ← Int.mul_assoc b c d, Int.mul_comm b c, Int.mul_assoc c b d, ← Int.mul_assoc]
theorem len2_nn (v : V2) : 0 ≤ len2 v := by
  have := sq_nn v.x; have := sq_nn v.y; unfold len2; omega
theorem lenV_mono {u v : V2} (hx : u.x.natAbs ≤ v.x.natAbs) (hy : u.y.natAbs ≤ v.y.natAbs) : lenV u ≤ lenV v := by
  refine isq_mono (len2_nn u) ?_
  have := sq_abs hx; have := sq_abs hy; unfold len2; omega
theorem lenV_nn (v : V2) : 0 ≤ lenV v := (isq_spec (len2_nn v)).1
theorem comp_le_len (v : V2) : (v.x.natAbs : Int) ≤ lenV v ∧ (v.y.natAbs : Int) ≤ lenV v := by
  have h1 := sq_nn v.x
  have h2 := sq_nn v.y
  constructor
  · refine le_isq (len2_nn v) ?_
    rw [nab_sq]; unfold len2; omega
  · refine le_isq (len2_nn v) ?_
    rw [nab_sq]; unfold len2; omega
/-- How fast a car may be. -/
def fOk (f : V2) : Prop := lenV f ≤ 2000
theorem fOk_bd {f : V2} (h : fOk f) : -2000 ≤ f.x ∧ f.x ≤ 2000 ∧ -2000 ≤ f.y ∧ f.y ≤ 2000 := by
  have := comp_le_len f
  unfold fOk at h
  omega
theorem fOk_less {u v : V2} (h : fOk v) (hx : u.x.natAbs ≤ v.x.natAbs) (hy : u.y.natAbs ≤ v.y.natAbs) : fOk u := Int.le_trans (lenV_mono hx hy) h
theorem scale_ok {v : V2} {k : Int} (h0 : 0 ≤ k) (h1 : k ≤ 1000) (h : fOk v) : fOk (scaleV v k) := fOk_less h (mul1_abs h0 h1) (mul1_abs h0 h1)
theorem cut_abs (a m n : Int) : ((a * m).tdiv n).natAbs * n.natAbs ≤ a.natAbs * m.natAbs := by
  rw [Int.natAbs_tdiv, Int.natAbs_mul]
  exact Nat.div_mul_le_self _ _
theorem clamp_ok (v : V2) : fOk (clampV v 2000) := by
  unfold clampV
  split
  · rename_i h; exact h
  · rename_i h
    have hn : 2001 ≤ lenV v := by omega
    obtain ⟨_, _, h2⟩ := isq_spec (len2_nn v)
    have h3 : len2 v < (lenV v + 1) * (lenV v + 1) := h2
    generalize hN : lenV v = n at *
    have hx := cut_abs v.x 2000 n
    have hy := cut_abs v.y 2000 n
    unfold fOk
    refine isq_le (len2_nn _) (by omega) ?_
    unfold len2
    unfold len2 at h3
    simp only
    generalize ha : (v.x * 2000).tdiv n = a at *
    generalize hb : (v.y * 2000).tdiv n = b at *
    have e1 : (a * n) * (a * n) ≤ (v.x * 2000) * (v.x * 2000) := sq_abs (by rw [Int.natAbs_mul, Int.natAbs_mul]; exact hx)
    have e2 : (b * n) * (b * n) ≤ (v.y * 2000) * (v.y * 2000) := sq_abs (by rw [Int.natAbs_mul, Int.natAbs_mul]; exact hy)
    have e3 : (a * n) * (a * n) = (a * a) * (n * n) := by rw [mmmm]
    have e4 : (b * n) * (b * n) = (b * b) * (n * n) := by rw [mmmm]
    have e5 : (v.x * 2000) * (v.x * 2000) = (v.x * v.x) * 4000000 := by rw [mmmm]; rfl
    have e6 : (v.y * 2000) * (v.y * 2000) = (v.y * v.y) * 4000000 := by rw [mmmm]; rfl
    have e7 : (n + 1) * (n + 1) = n * n + 2 * n + 1 := by
      rw [Int.add_mul, Int.mul_add, Int.one_mul, Int.mul_one]; omega
    rw [e3, e5] at e1
    rw [e4, e6] at e2
    rw [e7] at h3
    have e8 : (a * a + b * b) * (n * n) = (a * a) * (n * n) + (b * b) * (n * n) := Int.add_mul ..
    rcases Int.lt_or_le (a * a + b * b) ((2000 + 1) * (2000 + 1)) with hlt | hge
    · exact hlt
    · exfalso
      have hnn : 2001 * n ≤ n * n := Int.mul_le_mul_of_nonneg_right hn (by omega)
      have h4 : 4004001 * (n * n) ≤ (a * a + b * b) * (n * n) := Int.mul_le_mul_of_nonneg_right (by omega) (sq_nn n)
      omega
theorem dirT_bd : ∀ k : Fin 16, -1000 ≤ dirT.getD k.val 0 ∧ dirT.getD k.val 0 ≤ 1000 := by decide
theorem dirV_bd {d : Int} (h0 : 0 ≤ d) (h1 : d ≤ 15) : -1000 ≤ (dirV d).x ∧ (dirV d).x ≤ 1000 ∧ -1000 ≤ (dirV d).y ∧ (dirV d).y ≤ 1000 := by
  have a := dirT_bd ⟨d.toNat, by omega⟩
  have b := dirT_bd ⟨((d + 12) % 16).toNat, by omega⟩
  exact ⟨a.1, a.2, b.1, b.2⟩
theorem fastV_ok {f : V2} (d pw : Int) (h : fOk f) : fOk (fastV f d pw) := by
  unfold fastV
  split
  · exact clamp_ok _
  · split
    · exact scale_ok (by omega) (by omega) h
    · exact scale_ok (by omega) (by omega) h
theorem half_abs (a : Int) : (-(a.tdiv 2)).natAbs ≤ a.natAbs := by
  have := tdiv_abs a 2
  omega
theorem moveX_f {l : Lev} {p f : V2} (h : fOk f) : fOk (moveX l p f).2 := by
  unfold moveX
  split
  · exact h
  · exact fOk_less h (half_abs _) (Nat.le_refl _)
theorem moveY_f {l : Lev} {p f : V2} (h : fOk f) : fOk (moveY l p f).2 := by
  unfold moveY
  split
  · exact h
  · exact fOk_less h (Nat.le_refl _) (half_abs _)
theorem moveV_f {l : Lev} {p f : V2} (h : fOk f) : fOk (moveV l p f).2 := moveY_f (moveX_f h)
theorem moveX_free {l : Lev} {p f : V2} (h : freeB l p = true) : freeB l (moveX l p f).1 = true := by
  unfold moveX
  split
  · rename_i h1; exact h1
  · exact h
theorem moveY_free {l : Lev} {p f : V2} (h : freeB l p = true) : freeB l (moveY l p f).1 = true := by
  unfold moveY
  split
  · rename_i h1; exact h1
  · exact h
theorem moveV_free {l : Lev} {p f : V2} (h : freeB l p = true) : freeB l (moveV l p f).1 = true := moveY_free (moveX_free h)
/-- How far a move goes. -/
theorem moveX_bd {l : Lev} {p f : V2} (h : fOk f) : -2000 ≤ (moveX l p f).1.x - p.x ∧ (moveX l p f).1.x - p.x ≤ 2000 ∧ (moveX l p f).1.y = p.y := by
  have := fOk_bd h
  unfold moveX
  split
  · refine ⟨?_, ?_, rfl⟩ <;> simp only <;> omega
  · refine ⟨?_, ?_, rfl⟩ <;> simp only <;> omega
theorem moveY_bd {l : Lev} {p f : V2} (h : fOk f) : -2000 ≤ (moveY l p f).1.y - p.y ∧ (moveY l p f).1.y - p.y ≤ 2000 ∧ (moveY l p f).1.x = p.x := by
  have := fOk_bd h
  unfold moveY
  split
  · refine ⟨?_, ?_, rfl⟩ <;> simp only <;> omega
  · refine ⟨?_, ?_, rfl⟩ <;> simp only <;> omega
theorem moveV_bd {l : Lev} {p f : V2} (h : fOk f) : -2000 ≤ (moveV l p f).1.x - p.x ∧ (moveV l p f).1.x - p.x ≤ 2000 ∧ -2000 ≤ (moveV l p f).1.y - p.y ∧ (moveV l p f).1.y - p.y ≤ 2000 := by
  obtain ⟨a1, a2, a3⟩ := moveX_bd (l := l) (p := p) h
  obtain ⟨b1, b2, b3⟩ := moveY_bd (l := l) (p := (moveX l p f).1) (moveX_f (l := l) (p := p) h)
  unfold moveV
  omega
/-- What a state must be so that a tick can be reckoned. -/
structure sOk (l : Lev) (s : St) : Prop where
  p : vOk s.p = true
  f : fOk s.f
  d0 : 0 ≤ s.d
  d1 : s.d ≤ 15
  g0 : 0 ≤ s.g
  g1 : s.g ≤ l.gates.length
  ex : (s.dn && s.ov) = false
  dg : s.dn = true → s.g = l.gates.length
theorem fOk_zero : fOk ⟨0, 0⟩ := isq_le (by simp [len2]) (by omega) (by simp [len2])
theorem sOk_zero {l : Lev} (h : vOk l.start = true) : sOk l (st0 l) :=
  ⟨h, fOk_zero, by simp [st0], by simp [st0], by simp [st0], by simp [st0], rfl, by intro h; cases h⟩
theorem turnOf_bd (d s : Int) : 0 ≤ turnOf d s ∧ turnOf d s ≤ 15 := by unfold turnOf; omega
theorem gateB_lt {l : Lev} {g : Int} {p : V2} (h : gateB l g p = true) : g + 1 ≤ l.gates.length := by
  unfold gateB at h
  split at h
  · rename_i b hb
    have := (List.getElem?_eq_some_iff.1 hb).1
    simp at h
    omega
  · cases h
/-- Everything that a drive can come to. -/
theorem drive_ok {l : Lev} {s : St} (x : Inp) (h : sOk l s) (h1 : s.dn = false) : sOk l (driveS l s x) := by
  unfold driveS
  simp only
  split
  · rename_i hv
    have ht := turnOf_bd s.d x.s
    refine ⟨hv, moveV_f (fastV_ok _ _ h.f), ht.1, ht.2, ?_, ?_, by simp, ?_⟩
    · have := h.g0; simp only; split <;> omega
    · have := h.g1
      simp only
      split
      · rename_i hg; exact gateB_lt hg
      · exact this
    · intro hd
      simp only [Bool.and_eq_true, beq_iff_eq] at hd
      exact hd.1
  · exact ⟨h.p, h.f, h.d0, h.d1, h.g0, h.g1, by simp [h1], by simp [h1]⟩
theorem step_ok {l : Lev} {s : St} (x : Inp) (h : sOk l s) : sOk l (stepS l s x) := by
  unfold stepS
  split
  · exact h
  · rename_i hd
    split
    · exact ⟨h.p, h.f, h.d0, h.d1, h.g0, h.g1, h.ex, h.dg⟩
    · refine drive_ok x ⟨h.p, h.f, h.d0, h.d1, h.g0, h.g1, h.ex, h.dg⟩ ?_
      cases hdn : s.dn with
      | false => rfl
      | true => rw [hdn] at hd; simp at hd
theorem foldl_ok {l : Lev} : ∀ (ins : List Inp) (s : St), sOk l s → sOk l (ins.foldl (stepS l) s)
  | [], _, h => h
  | x :: ins, _, h => foldl_ok ins _ (step_ok x h)
theorem runTo_ok {l : Lev} (ins : List Inp) (n : Nat) (h : vOk l.start = true) : sOk l (runTo l ins n) := foldl_ok _ _ (sOk_zero h)
theorem step_free {l : Lev} {s : St} (x : Inp) (h : freeB l s.p = true) : freeB l (stepS l s x).p = true := by
  unfold stepS
  split
  · exact h
  · split
    · exact h
    · unfold driveS
      simp only
      split
      · exact moveV_free h
      · exact h
theorem foldl_free {l : Lev} : ∀ (ins : List Inp) (s : St), freeB l s.p = true → freeB l (ins.foldl (stepS l) s).p = true
  | [], _, h => h
  | x :: ins, _, h => foldl_free ins _ (step_free x h)
theorem runTo_free {l : Lev} (ins : List Inp) (n : Nat) (h : freeB l l.start = true) : freeB l (runTo l ins n).p = true := foldl_free _ _ h
theorem step_t (l : Lev) (s : St) (x : Inp) : (s.dn = true ∨ s.ov = true) ∧ stepS l s x = s ∨ s.dn = false ∧ s.ov = false ∧ (stepS l s x).t = s.t + 1 := by
  unfold stepS
  cases hd : s.dn <;> cases ho : s.ov <;> simp
  split
  · simp
  · unfold driveS
    simp only
    split <;> rfl
/-- The tick of a run: as many as inputs, or fewer where it has ended. -/
theorem runTo_t (l : Lev) (ins : List Inp) : ∀ n : Nat, n ≤ ins.length → 0 ≤ (runTo l ins n).t ∧ ((runTo l ins n).t = n ∨ (runTo l ins n).t < n ∧ ((runTo l ins n).dn = true ∨ (runTo l ins n).ov = true))
  | 0, _ => by simp [runTo_zero, st0]
  | n + 1, h => by
    obtain ⟨h1, h2⟩ := runTo_t l ins n (by omega)
    have hx : ins[n]? = some (ins[n]'(by omega)) := List.getElem?_eq_getElem _
    rw [runTo_succ hx]
    rcases step_t l (runTo l ins n) (ins[n]'(by omega)) with ⟨ha, hb⟩ | ⟨ha, hb, hc⟩
    · rw [hb]
      exact ⟨h1, .inr ⟨by omega, ha⟩⟩
    · rw [hc]
      rw [ha, hb] at h2
      simp only [Bool.false_eq_true, or_self, and_false, or_false] at h2
      exact ⟨by omega, .inl (by omega)⟩
theorem levOk_iff {l : Lev} : levOk l = true ↔ (0 ≤ l.id ∧ l.id ≤ 99) ∧ (1 ≤ l.ticks ∧ l.ticks ≤ 60) ∧ vOk l.start = true ∧ l.walls.length ≤ 4 ∧ (∀ b ∈ l.walls, bxOk b = true) ∧ l.gates.length ≤ 3 ∧ (∀ b ∈ l.gates, bxOk b = true) ∧ bxOk l.fin = true ∧ (0 ≤ l.bans ∧ l.bans ≤ 3) ∧ freeB l l.start = true := by
  simp [levOk, boxesB, inR_iff, and_assoc]
theorem ownB_iff {s : St} : ownB s = true ↔ (0 ≤ s.t ∧ s.t ≤ 60) ∧ vOk s.p = true ∧ vOk s.f = true ∧ lenV s.f ≤ 2000 ∧ (0 ≤ s.d ∧ s.d ≤ 15) ∧ (0 ≤ s.g ∧ s.g ≤ 3) ∧ (s.dn && s.ov) = false := by
  cases h : (s.dn && s.ov) <;> simp [ownB, inR_iff, h]
theorem validB_iff {l : Lev} {s : St} : validB l s = true ↔ levOk l = true ∧ ownB s = true ∧ s.t ≤ l.ticks ∧ s.g ≤ l.gates.length ∧ freeB l s.p = true ∧ (s.dn = true → s.g = l.gates.length) := by
  simp only [validB, Bool.and_eq_true, decide_eq_true_eq, Bool.or_eq_true, Bool.not_eq_true', beq_iff_eq]
  constructor
  · rintro ⟨h1, h2, h3, h4, h5, h6⟩
    exact ⟨h1, h2, h3, h4, h5, fun h => by rcases h6 with h6 | h6 <;> simp_all⟩
  · rintro ⟨h1, h2, h3, h4, h5, h6⟩
    refine ⟨h1, h2, h3, h4, h5, ?_⟩
    cases hd : s.dn
    · exact .inl rfl
    · exact .inr (h6 hd)
theorem valid_sOk {l : Lev} {s : St} (h : validB l s = true) : sOk l s := by
  obtain ⟨h1, h2, h3, h4, h5, h6⟩ := validB_iff.1 h
  obtain ⟨k1, k2, k3, k4, k5, k6, k7⟩ := ownB_iff.1 h2
  exact ⟨k2, k4, k5.1, k5.2, k6.1, h4, k7, h6⟩
theorem fOk_vOk {f : V2} (h : fOk f) : vOk f = true := by
  have := fOk_bd h
  rw [vOk_iff]; omega
/-- What is right for a tick is valid, if its tick is in range and the car is free. -/
theorem sOk_valid {l : Lev} {s : St} (hl : levOk l = true) (h : sOk l s) (h0 : 0 ≤ s.t) (h1 : s.t ≤ l.ticks) (hf : freeB l s.p = true) : validB l s = true := by
  have hL := levOk_iff.1 hl
  have := h.g1
  exact validB_iff.2 ⟨hl, ownB_iff.2 ⟨⟨h0, by omega⟩, h.p, fOk_vOk h.f, h.f, ⟨h.d0, h.d1⟩, ⟨h.g0, by omega⟩, h.ex⟩, h1, h.g1, hf, h.dg⟩
theorem step_valid {l : Lev} {s : St} (x : Inp) (h : validB l s = true) (ht : s.t < l.ticks ∨ s.dn = true ∨ s.ov = true) : validB l (stepS l s x) = true := by
  obtain ⟨h1, h2, h3, h4, h5, h6⟩ := validB_iff.1 h
  obtain ⟨k1, _⟩ := ownB_iff.1 h2
  have hs := step_t l s x
  refine sOk_valid h1 (step_ok x (valid_sOk h)) ?_ ?_ (step_free x h5)
  · rcases hs with ⟨_, e⟩ | ⟨_, _, e⟩ <;> rw [e] <;> omega
  · rcases hs with ⟨_, e⟩ | ⟨hd, ho, e⟩
    · rw [e]; exact h3
    · rw [e]
      rcases ht with ht | ht | ht
      · omega
      · rw [hd] at ht; cases ht
      · rw [ho] at ht; cases ht
theorem bxOk_bd {b : Bx} (h : bxOk b = true) : (-1000000 ≤ b.lo.x ∧ b.lo.x ≤ b.hi.x ∧ b.hi.x ≤ 1000000) ∧ (-1000000 ≤ b.lo.y ∧ b.lo.y ≤ b.hi.y ∧ b.hi.y ≤ 1000000) := by
  simp only [bxOk, Bool.and_eq_true, vOk_iff, decide_eq_true_eq] at h
  omega
end Go.Proofs.YtdpoicfciogfnaaDoor
