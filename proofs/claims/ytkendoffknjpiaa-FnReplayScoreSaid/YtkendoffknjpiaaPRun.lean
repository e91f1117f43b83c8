/- Runs and replays: the plain laws. No program is named here. -/
import Derived.Test.YtkendoffknjpiaaSpecK
namespace Go.Proofs.Ytkendoffknjpiaa
open Go.RowKit
theorem runTo_snoc (l : Lev) (out : List Inp) (x : Inp) : runTo l (out ++ [x]) (out ++ [x]).length = stepS l (runTo l out out.length) x := by
  unfold runTo
  rw [List.take_length, List.take_length, List.foldl_append]
  rfl
theorem steerOf_snoc (out : List Inp) (x : Inp) : steerOf (out ++ [x]) = x.s := by simp [steerOf]
theorem hashS_bd (s : St) : 0 ≤ hashS s ∧ hashS s ≤ 1000002 := hashL_bd ⟨by omega, by omega⟩ _
theorem hashB_iff {n : Int} : hashB n = true ↔ 0 ≤ n ∧ n ≤ 1000002 := inR_iff
theorem hashesR_ok (l : Lev) (ins : List Inp) : ∀ x ∈ hashesR l ins, 0 ≤ x ∧ x ≤ 1000002 := by
  intro x hx
  unfold hashesR at hx
  split at hx
  · unfold hashesTo at hx
    obtain ⟨k, _, rfl⟩ := List.mem_map.1 hx
    exact hashS_bd _
  · cases hx
theorem hashesR_len {l : Lev} {ins : List Inp} (h : runOk l ins = true) : (hashesR l ins).length = ins.length / 5 := by
  unfold hashesR
  rw [h, if_pos rfl, hashesTo_len]
theorem hashesR_no {l : Lev} {ins : List Inp} (h : runOk l ins = false) : hashesR l ins = [] := by
  unfold hashesR
  rw [h]
  rfl
theorem scoreR_bd (l : Lev) (ins : List Inp) : -1 ≤ scoreR l ins ∧ scoreR l ins ≤ 60 := by
  unfold scoreR
  cases h : runOk l ins with
  | false => simp
  | true =>
    obtain ⟨_, h60, _⟩ := runOk_bd h
    obtain ⟨a, b⟩ := runTo_t l ins ins.length (Nat.le_refl _)
    simp only [if_true]
    split
    · omega
    · omega
/-- The made replay ahead of its tag. -/
def baseRep (l : Lev) (pl : Int) (ins : List Inp) : Rep := ⟨l.id, pl, max (scoreR l ins) 0, ins, hashesR l ins, 0⟩
def makeRep (l : Lev) (pl key : Int) (ins : List Inp) : Rep := ⟨l.id, pl, max (scoreR l ins) 0, ins, hashesR l ins, tagL key (repList (baseRep l pl ins))⟩
def makeOk (l : Lev) (pl key : Int) (ins : List Inp) : Bool := runOk l ins && (inR 0 9 pl && inR 1 9999 key)
def zeroRep : Rep := ⟨0, 0, 0, [], [], 0⟩
def makeR (l : Lev) (pl key : Int) (ins : List Inp) : Rep := if makeOk l pl key ins then makeRep l pl key ins else zeroRep
theorem makeOk_iff {l : Lev} {pl key : Int} {ins : List Inp} : makeOk l pl key ins = true ↔ runOk l ins = true ∧ (0 ≤ pl ∧ pl ≤ 9) ∧ (1 ≤ key ∧ key ≤ 9999) := by
  simp only [makeOk, Bool.and_eq_true, inR_iff]
theorem tagL_bd (key : Int) (l : List Int) : 0 ≤ tagL key l ∧ tagL key l ≤ 1000002 := hstep_bd _ _
theorem replayOk_mk {l : Lev} {pl t : Int} {ins : List Inp} (h : runOk l ins = true) (hp : 0 ≤ pl ∧ pl ≤ 9) (ht : 0 ≤ t ∧ t ≤ 1000002) : replayOk ⟨l.id, pl, max (scoreR l ins) 0, ins, hashesR l ins, t⟩ = true := by
  obtain ⟨_, h60, _, hv, _⟩ := runOk_bd h
  obtain ⟨hi, _⟩ := levOk_iff.1 (runOk_iff.1 h).1
  have hs := scoreR_bd l ins
  simp only [replayOk, Bool.and_eq_true]
  refine ⟨inR_iff.2 hi, inR_iff.2 hp, inR_iff.2 (by omega), inputsOkB_iff.2 ⟨hv, h60⟩, ?_, hashB_iff.2 ht, ?_⟩
  · unfold lenB
    rw [hashesR_len h]
    simp
  · rw [List.all_eq_true]
    intro x hx
    exact hashB_iff.2 (hashesR_ok l ins x hx)
theorem baseRep_ok {l : Lev} {pl : Int} {ins : List Inp} (h : runOk l ins = true) (hp : 0 ≤ pl ∧ pl ≤ 9) : replayOk (baseRep l pl ins) = true := replayOk_mk h hp (by omega)
theorem makeRep_ok {l : Lev} {pl key : Int} {ins : List Inp} (h : makeOk l pl key ins = true) : replayOk (makeRep l pl key ins) = true := by
  obtain ⟨h1, h2, _⟩ := makeOk_iff.1 h
  exact replayOk_mk h1 h2 (tagL_bd _ _)
theorem code_bd {x : Inp} (h : inpOk x = true) : 0 ≤ code x ∧ code x ≤ 9 := by
  have h' := inpOk_bd h
  obtain ⟨s, p, z⟩ := x
  simp only at h'
  cases z <;> simp [code] <;> omega
/-- The numbers that are tagged are small. -/
theorem repList_bd {r : Rep} (h : replayOk r = true) : ∀ x ∈ repList r, 0 ≤ x ∧ x ≤ 1000002 := by
  simp only [replayOk, Bool.and_eq_true, inR_iff] at h
  obtain ⟨h1, h2, h3, h4, h5, h6, h7⟩ := h
  obtain ⟨hv, hl⟩ := inputsOkB_iff.1 h4
  intro x hx
  unfold repList repHead at hx
  simp only [List.mem_append, List.mem_cons, List.not_mem_nil, or_false, List.mem_map] at hx
  rcases hx with ((rfl | rfl | rfl | rfl) | ⟨y, hy, rfl⟩) | hx
  · omega
  · omega
  · omega
  · omega
  · have := code_bd (hv y hy); omega
  · exact hashB_iff.1 (List.all_eq_true.1 h7 x hx)
theorem repList_len (r : Rep) : (repList r).length = 4 + r.ins.length + r.hs.length := by
  simp [repList, repHead]; omega
end Go.Proofs.Ytkendoffknjpiaa
