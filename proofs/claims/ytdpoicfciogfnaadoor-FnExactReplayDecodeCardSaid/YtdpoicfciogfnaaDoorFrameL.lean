/- The frame of a law over laid tables. (Seat D) -/
import Derived.Test.YtdpoicfciogfnaaDoorZHead
import Derived.Test.YtdpoicfciogfnaaDoorEnc
import Derived.LaidMore
import Derived.LaidHandle
import Derived.LaidLaws
import Derived.LaidSub
import Derived.SevenTiedAt
import Derived.Lib.LaidTab
namespace Go.Proofs.YtdpoicfciogfnaaDoor
open Go.ChangeShapes Go.WideShapes Go.ChangeAt Go.RowKit Go.Joins Go.Deep
def powNm : String × DataW Unit → Bool := fun x => x.1 == "internal/strconv.uint64pow10"
theorem pow_kept : Rows.fnExactReplayEncodeRow.laid.filter powNm = [("internal/strconv.uint64pow10", Lib.tabData .u64 Lib.pow10Tab)] := by kernel_rfl
theorem tab_of {W : World} {l : List (String × DataW Unit)} (hl : l.filter powNm = [("internal/strconv.uint64pow10", Lib.tabData .u64 Lib.pow10Tab)]) (h : laidMet Tryd.prog l W) : Tab W := by
  have h' := laidMet.filter powNm h
  rw [hl] at h'
  obtain ⟨g, hg⟩ : ∃ g, Tryd.prog.globalNamed "internal/strconv.uint64pow10" = some g := ⟨(Tryd.prog.globalNamed "internal/strconv.uint64pow10").getD 0, by kernel_rfl⟩
  have hty : ((Tryd.prog.globalNamed "internal/strconv.uint64pow10").bind fun g => (Tryd.prog.globals[g]?).map (·.type)) = some 168 := by kernel_rfl
  rw [hg] at hty
  exact Lib.tabIs_of_head hg hty Tryd.underlying168 Tryd.underlying149 (by kernel_rfl) (by kernel_rfl) h'
/-- What a law's walk must come to, the tables lying as they are laid. -/
def LawWalkL (f : FuncId) (fn : Func) : Prop :=
  ∀ (H : Type) (enc : TypeId × Value → H) (W : World) (base : Nat) (args : Array Value) (ds : List (DataW H)) (ps : List MemPlace),
    (∀ (j : Nat) t v, fn.params[j]? = some t → args[j]? = some v → Value.okWide Tryd.prog W .any base t v) →
    DataW.TrodAll enc Tryd.prog W 0 (fun _ => true) true fn.params.toList args.toList ds ps → (∀ x ∈ ps, x.block < W.heap.size) →
    (DataW.weightsEach Tryd.prog fn.params.toList ds).all (· ≤ reachBytes) = true → Tab W →
    Calls Tryd.prog f args W fun e W' => e = .returned (.bool true) ∧ Below W.heap.size W W'
set_option maxRecDepth 100000 in
theorem law_laid {f : FuncId} {fn : Func} {s : ChangeSpec} {tb : TypeId} {l : List (String × DataW Unit)} (os : Os) (started : os.Started) (H : Type) (enc : TypeId × Value → H)
    (hl : l.filter powNm = [("internal/strconv.uint64pow10", Lib.tabData .u64 Lib.pow10Tab)])
    (noInit : Tryd.checked.prog.inits.idxOf? f = none) (hfn : Tryd.prog.funcs[f]? = some fn) (hread : fn.params.toList.all (fun t => Tryd.prog.readableRec t && decide (t < Tryd.prog.types.size)) = true) (hrt : fn.resultTypes = #[tb]) (htb : Tryd.prog.underlying tb = some .bool)
    (hvars : s.vars = []) (hs : ∀ ds : List (DataW H), ds.length = fn.params.size → s.fn H ds = { results := [.lit (.bool true)], args := ds })
    (witness : ∃ (w : World) (tape : Tape) (i : Input), w.os = os ∧ (w.forCall tape i).Shaped Tryd.checked.prog ∧ i.vars = [] ∧ Input.okWide Tryd.checked.prog (w.forCall tape i) .any w.heap.size f i ∧
      ((s.pre enc Tryd.checked.prog fn [] false (w.forCall tape i).memory i.args ∧ laidMet Tryd.prog l (w.forCall tape i).memory) ∧ sizedMet enc Tryd.checked.prog fn (OpenSpec.ofChange s) false (w.forCall tape i).memory i.args) ∧ ({} : Assume).holds Tryd.checked.prog (lone (Frame.enter Tryd.checked.prog f i.args .normal) [] (w.forCall tape i)))
    (walk : LawWalkL f fn) : ReturnsInHanded {} Tryd.checked os f .any (fun w args => (s.pre enc Tryd.prog fn [] false w args ∧ laidMet Tryd.prog l w) ∧ sizedMet enc Tryd.prog fn (OpenSpec.ofChange s) false w args) (s.post enc Tryd.prog fn false true false false) := by
  refine returnsInHanded_of_change_and (C := Tryd.checked) (X := fun w _ => laidMet Tryd.prog l w) (fun _ _ _ hh h => h.of_heap hh) own started noInit hfn witness ?_
  intro W base args ds gs before hval hW _ hsz hL _
  have hW0 := hW
  obtain ⟨p, q, hA, hV, rfl, _, _⟩ := hW
  have hV0 := hV
  rw [hvars] at hV0
  obtain ⟨rfl, rfl⟩ := trodVars_none hV0
  have hlen : ds.length = fn.params.size := by
    have : ∀ (ts : List TypeId) (vs : List Value) (ds : List (DataW H)) (ps : List MemPlace), DataW.TrodAll enc Tryd.prog W 0 (fun _ => true) true ts vs ds ps → ds.length = ts.length := by
      intro ts
      induction ts with
      | nil => intro vs ds ps h; obtain ⟨_, rfl, _⟩ := trodAll_nil h; rfl
      | cons t ts ih =>
        intro vs ds ps h
        obtain ⟨v, vs', d, ds', p, q, _, rfl, _, _, h1⟩ := trodAll_cons h
        simp [ih _ _ _ h1]
    have h := this _ _ _ _ hA
    simpa using h
  have hsz' : (DataW.weightsEach Tryd.prog fn.params.toList ds).all (· ≤ reachBytes) = true := by
    have e : s.plain.varTypes Tryd.checked.prog = [] := by
      have : s.plain.vars = [] := hvars
      simp [DataSpec.varTypes, this]
    have hsz0 := hsz
    rw [e, List.append_nil, List.append_nil] at hsz0
    exact hsz0
  have hlt : ∀ x ∈ p, x.block < W.heap.size := fun x hx => by simpa using hW0.lt x (List.mem_append.2 (.inl hx))
  refine (walk H enc W base args ds p hval hA hlt hsz' (tab_of hl hL)).mono fun e W' ⟨he, hb⟩ => ?_
  subst he
  exact ⟨_, rfl, law_post laidOut hread hrt htb hvars (hs ds hlen) hW0 hb⟩
end Go.Proofs.YtdpoicfciogfnaaDoor
