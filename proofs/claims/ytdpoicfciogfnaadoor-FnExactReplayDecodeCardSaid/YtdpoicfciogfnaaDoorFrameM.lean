/- The frame of a law over laid variables, the world's shape kept. (Seat D) -/
import Derived.Test.YtdpoicfciogfnaaDoorFrameL
import Derived.Test.YtdpoicfciogfnaaDoorDecX
import Derived.Stop.LaidErr
import Derived.LaidLaws
import Derived.LaidSub
namespace Go.Proofs.YtdpoicfciogfnaaDoor
open Go.ChangeShapes Go.WideShapes Go.ChangeAt Go.RowKit Go.Joins Go.Deep
section
variable {P : Program} {W : World} {nm : String} {ti tp te ts : TypeId} {ms : Array (String × TypeId)} {f : Field}
/-- The list's entries: name, text, number. -/
def laidM (nm : String) (L : List (String × List UInt8 × Nat)) : List (String × DataW Unit) := L.map fun x => (x.1, .iface nm (.ptr (.agg [.lit (.string x.2.1)])))
def placesM : List (String × List UInt8 × Nat) → List Addr → List MemPlace
  | x :: L, a :: az => MemPlace.cell x.2.2 0 :: MemPlace.cell a.block a.off :: placesM L az
  | _, _ => []
theorem placesM_cell : ∀ {L : List (String × List UInt8 × Nat)} {az : List Addr} {i : Nat} {a : Addr}, az.length = L.length → az[i]? = some a → MemPlace.cell a.block a.off ∈ placesM L az
  | [], [], i, a, _, h => by cases h
  | x :: L, b :: az, 0, a, _, h => by
    obtain rfl : b = a := by simpa using h
    simp [placesM]
  | x :: L, b :: az, i + 1, a, hl, h => by
    have := placesM_cell (L := L) (az := az) (i := i) (a := a) (by simpa using hl) (by simpa using h)
    simp [placesM, this]
theorem placesM_ne : ∀ {L : List (String × List UInt8 × Nat)} {az : List Addr} {i j : Nat} {a : Addr}, az.length = L.length → (placesM L az).Nodup → az[i]? = some a → az[j]? = some a → i = j
  | [], [], i, j, a, _, _, h, _ => by cases h
  | x :: L, b :: az, 0, 0, a, _, _, _, _ => rfl
  | x :: L, b :: az, i + 1, j + 1, a, hl, hn, h, h' => by
    simp only [placesM, List.nodup_cons] at hn
    have := placesM_ne (L := L) (az := az) (i := i) (j := j) (a := a) (by simpa using hl) hn.2.2 (by simpa using h) (by simpa using h')
    omega
  | x :: L, b :: az, 0, j + 1, a, hl, hn, h, h' => by
    obtain rfl : b = a := by simpa using h
    have := placesM_cell (L := L) (az := az) (i := j) (a := b) (by simpa using hl) (by simpa using h')
    simp only [placesM, List.nodup_cons] at hn
    exact absurd this hn.2.1
  | x :: L, b :: az, i + 1, 0, a, hl, hn, h, h' => by
    obtain rfl : b = a := by simpa using h'
    have := placesM_cell (L := L) (az := az) (i := i) (a := b) (by simpa using hl) (by simpa using h)
    simp only [placesM, List.nodup_cons] at hn
    exact absurd this hn.2.1
theorem laidM_go (hi : P.underlying ti = some (.interface ms)) (hrow : ∀ u, P.typeName? 3 u = some nm → u = tp)
    (hp : P.underlying tp = some (.pointer te)) (he : P.underlying te = some (.struct #[f])) (hft : f.type = ts) (hfo : f.offset = 0) (hs : P.underlying ts = some .string) (hc : P.cellsOf te = 1) (hcs : P.cellsOf ts = 1) :
    ∀ {L : List (String × List UInt8 × Nat)} {ps : List MemPlace}, (∀ x ∈ L, P.globalNamed x.1 = some x.2.2 ∧ (P.globals[x.2.2]?).map (·.type) = some ti) → DataW.LaidVars P W (laidM nm L) ps →
    (∀ b off, MemPlace.cell b off ∈ ps → (∃ c t, W.heap[b]? = some (.cells c t (0, 0))) ∧ ∀ u v, W.cell? ⟨b, off, none⟩ = some (.iface u v) → Value.okWide P W .any 0 u v) →
    ∃ az : List Addr, az.length = L.length ∧ ps = placesM L az ∧ ∀ (i : Nat) (x : String × List UInt8 × Nat), L[i]? = some x → ∃ a, az[i]? = some a ∧ W.var? P x.1 = some #[.iface tp (.pointer (some a))] ∧ ∃ c t, W.heap[a.block]? = some (.cells c t (0, 0))
  | [], ps, _, h, _ => ⟨[], rfl, h, fun i x hx => by cases hx⟩
  | x :: L, ps, hL, h, hrows => by
    obtain ⟨n, text, g0⟩ := x
    obtain ⟨hg0, ht0⟩ := hL _ (List.mem_cons_self ..)
    obtain ⟨g, t, cs, fuel, p, q, hg, ht, hv, hd, hq, rfl⟩ := h
    obtain rfl := Option.some.inj (hg0.symm.trans hg)
    obtain rfl := Option.some.inj (ht0.symm.trans ht)
    obtain ⟨l⟩ := cs
    have ok : ∀ u v, l = [.iface u v] → Value.okWide P W .any 0 u v := fun u v e => by
      subst e
      exact (hrows g0 0 (by simp [MemPlace.row])).2 u v (by simpa using World.var?_cell hg hv 0)
    obtain ⟨a, s, rfl, hca, _, _, rfl⟩ := errorString_of_trod hi hrow hp he hft hfo hs hc hcs hd ok
    obtain ⟨az, h1, h2, h3⟩ := laidM_go hi hrow hp he hft hfo hs hc hcs (L := L) (ps := q) (fun y hy => hL y (List.mem_cons_of_mem _ hy)) hq fun b off hm => hrows b off (List.mem_append_right _ hm)
    refine ⟨a :: az, by simp [h1], by rw [h2]; simp [MemPlace.row, placesM], fun i y hy => ?_⟩
    cases i with
    | zero =>
      obtain rfl : (n, text, g0) = y := by simpa using hy
      exact ⟨a, rfl, hv, (hrows a.block a.off (by simp [MemPlace.row])).1⟩
    | succ i =>
      obtain ⟨b, hb, hb2⟩ := h3 i y (by simpa using hy)
      exact ⟨b, by simpa using hb, hb2⟩
end
def errNm : String × DataW Unit → Bool := fun x => x.1 == "strconv.ErrRange" || x.1 == "strconv.ErrSyntax"
def decNm : String := match (Rows.laid_strconv_ErrRange : DataW Unit) with | .iface n _ => n | _ => default
def decTx (d : DataW Unit) : List UInt8 := match d with | .iface _ (.ptr (.agg [.lit (.string t)])) => t | _ => []
def decErr : List (String × List UInt8 × Nat) := [("strconv.ErrRange", decTx Rows.laid_strconv_ErrRange, 2), ("strconv.ErrSyntax", decTx Rows.laid_strconv_ErrSyntax, 1)]
theorem dec_laid : Rows.fnExactReplayDecodeRow.laid.filter errNm = laidM decNm decErr := by kernel_rfl
theorem dec_pow : Rows.fnExactReplayDecodeRow.laid.filter powNm = [("internal/strconv.uint64pow10", Lib.tabData .u64 Lib.pow10Tab)] := by kernel_rfl
theorem dec_glob : ∀ x ∈ decErr, Tryd.prog.globalNamed x.1 = some x.2.2 ∧ (Tryd.prog.globals[x.2.2]?).map (·.type) = some 94 := by
  have h : decErr.all (fun x => Tryd.prog.globalNamed x.1 == some x.2.2 && (Tryd.prog.globals[x.2.2]?).map (·.type) == some 94) = true := by kernel_rfl
  intro x hx
  have := List.all_eq_true.1 h x hx
  simp only [Bool.and_eq_true, beq_iff_eq] at this
  exact this
theorem dec_row (u : TypeId) (h : Tryd.prog.typeName? 3 u = some decNm) : u = 183 :=
  typeName_ptr_named (nm := "errors.errorString") (by kernel_rfl) (by kernel_rfl) (by decide) u (h.trans rfl)
theorem vars_of {W : World} (h : laidMet Tryd.prog Rows.fnExactReplayDecodeRow.laid W) (hsh : W.ShapedOpen Tryd.prog) : Vars4 W := by
  have h' := laidMet.filter errNm h
  rw [dec_laid] at h'
  obtain ⟨ps, hv, hnd, hrows⟩ := h'
  have hf : ∃ f : Field, Tryd.prog.underlying 185 = some (.struct #[f]) ∧ f.type = 9 ∧ f.offset = 0 := ⟨_, Tryd.underlying185, rfl, rfl⟩
  obtain ⟨f, he, hft, hfo⟩ := hf
  obtain ⟨az, h1, rfl, h3⟩ := laidM_go (P := Tryd.prog) Tryd.underlying94 dec_row Tryd.underlying183 he hft hfo Tryd.underlying9 (by kernel_rfl) (by kernel_rfl) dec_glob hv hrows
  obtain ⟨a2, _, v2, _⟩ := h3 0 _ rfl
  obtain ⟨a1, _, v1, _⟩ := h3 1 _ rfl
  have g2 := (dec_glob _ (List.mem_of_getElem? (show decErr[0]? = some _ from rfl))).1
  have g1 := (dec_glob _ (List.mem_of_getElem? (show decErr[1]? = some _ from rfl))).1
  exact ⟨tab_of dec_pow h, Tryd.laysM146.s1_3 W hsh, ⟨_, _, by simpa using World.var?_cell g1 v1 0⟩, ⟨_, _, by simpa using World.var?_cell g2 v2 0⟩⟩
/-- What a law's walk must come to, the variables lying as they are laid. -/
def LawWalkM (f : FuncId) (fn : Func) : Prop :=
  ∀ (H : Type) (enc : TypeId × Value → H) (W : World) (base : Nat) (args : Array Value) (ds : List (DataW H)) (ps : List MemPlace),
    (∀ (j : Nat) t v, fn.params[j]? = some t → args[j]? = some v → Value.okWide Tryd.prog W .any base t v) →
    DataW.TrodAll enc Tryd.prog W 0 (fun _ => true) true fn.params.toList args.toList ds ps → (∀ x ∈ ps, x.block < W.heap.size) →
    (DataW.weightsEach Tryd.prog fn.params.toList ds).all (· ≤ reachBytes) = true → Vars4 W →
    Calls Tryd.prog f args W fun e W' => e = .returned (.bool true) ∧ Below W.heap.size W W'
set_option maxRecDepth 100000 in
theorem law_laidM {f : FuncId} {fn : Func} {s : ChangeSpec} {tb : TypeId} (os : Os) (started : os.Started) (H : Type) (enc : TypeId × Value → H)
    (noInit : Tryd.checked.prog.inits.idxOf? f = none) (hfn : Tryd.prog.funcs[f]? = some fn) (hread : fn.params.toList.all (fun t => Tryd.prog.readableRec t && decide (t < Tryd.prog.types.size)) = true) (hrt : fn.resultTypes = #[tb]) (htb : Tryd.prog.underlying tb = some .bool)
    (hvars : s.vars = []) (hs : ∀ ds : List (DataW H), ds.length = fn.params.size → s.fn H ds = { results := [.lit (.bool true)], args := ds })
    (witness : ∃ (w : World) (tape : Tape) (i : Input), w.os = os ∧ (w.forCall tape i).Shaped Tryd.checked.prog ∧ i.vars = [] ∧ Input.okWide Tryd.checked.prog (w.forCall tape i) .any w.heap.size f i ∧
      ((s.pre enc Tryd.checked.prog fn [] false (w.forCall tape i).memory i.args ∧ laidMet Tryd.prog Rows.fnExactReplayDecodeRow.laid (w.forCall tape i).memory) ∧ sizedMet enc Tryd.checked.prog fn (OpenSpec.ofChange s) false (w.forCall tape i).memory i.args) ∧ ({} : Assume).holds Tryd.checked.prog (lone (Frame.enter Tryd.checked.prog f i.args .normal) [] (w.forCall tape i)))
    (walk : LawWalkM f fn) : ReturnsInHanded {} Tryd.checked os f .any (fun w args => (s.pre enc Tryd.prog fn [] false w args ∧ laidMet Tryd.prog Rows.fnExactReplayDecodeRow.laid w) ∧ sizedMet enc Tryd.prog fn (OpenSpec.ofChange s) false w args) (s.post enc Tryd.prog fn false true false false) := by
  refine returnsInHanded_of_calls own started noInit witness ?_
  intro w tape i _ hsh _ hok hpre _
  obtain ⟨_, _, _, fn', hfn', _, _, _, _, hval⟩ := hok
  have e : fn' = fn := Option.some.inj (hfn'.symm.trans hfn)
  subst e
  obtain ⟨⟨⟨ds, gs, before, hw, hc⟩, hx⟩, hz⟩ := hpre
  have hW := DataW.Whole.of_heap (w' := w.forCall tape i) (by rfl) hw
  have hsz := hz.weights hw
  have hL : laidMet Tryd.prog Rows.fnExactReplayDecodeRow.laid (w.forCall tape i) := hx.of_heap (by rfl)
  generalize w.forCall tape i = W at *
  have hW0 := hW
  obtain ⟨p, q, hA, hV, rfl, _, _⟩ := hW
  have hV0 := hV
  rw [hvars] at hV0
  obtain ⟨rfl, rfl⟩ := trodVars_none hV0
  have hlen : ds.length = fn'.params.size := by
    have : ∀ (ts : List TypeId) (vs : List Value) (ds : List (DataW H)) (ps : List MemPlace), DataW.TrodAll enc Tryd.prog W 0 (fun _ => true) true ts vs ds ps → ds.length = ts.length := by
      intro ts
      induction ts with
      | nil => intro vs ds ps h; obtain ⟨_, rfl, _⟩ := trodAll_nil h; rfl
      | cons t ts ih =>
        intro vs ds ps h
        obtain ⟨v, vs', d, ds', p, q, _, rfl, _, _, h1⟩ := trodAll_cons h
        simp [ih _ _ _ h1]
    have h := this _ _ _ _ hA
    simpa using h
  have hsz' : (DataW.weightsEach Tryd.prog fn'.params.toList ds).all (· ≤ reachBytes) = true := by
    have e : s.plain.varTypes Tryd.checked.prog = [] := by
      have : s.plain.vars = [] := hvars
      simp [DataSpec.varTypes, this]
    have hsz0 : (DataW.weightsEach Tryd.prog (fn'.params.toList ++ s.plain.varTypes Tryd.checked.prog) (ds ++ [])).all (· ≤ reachBytes) = true := hsz
    rw [e, List.append_nil, List.append_nil] at hsz0
    exact hsz0
  have hlt : ∀ x ∈ p, x.block < W.heap.size := fun x hx => by simpa using hW0.lt x (List.mem_append.2 (.inl hx))
  refine (walk H enc W _ i.args ds p hval hA hlt hsz' (vars_of hL hsh)).mono fun e W' ⟨he, hb⟩ => ?_
  subst he
  exact ChangeSpec.post_blind (law_post laidOut hread hrt htb hvars (hs ds hlen) hW0 hb)
end Go.Proofs.YtdpoicfciogfnaaDoor
