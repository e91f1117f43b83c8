/- Lemmas: SpecI SpecJ SpecK PRun RunP. -/
import Derived.Test.YtlegilbiapbfkaaZDrive
import Derived.Test.YtlegilbiapbfkaaZSpec
import Derived.Test.YtlegilbiapbfkaaZRepl
/- The reference's hashes and runs. -/
namespace Go.Proofs.Ytlegilbiapbfkaa
open Go.ChangeShapes Go.WideShapes Go.ChangeAt Go.RowKit
def int64 (n : Int) : Prop := -9223372036854775808 ≤ n ∧ n ≤ 9223372036854775807
theorem Sl.lit (w : World) (T : TypeId) (cs : Array Value) (l : List Int) (g n : Nat) (hg : w.heap.size = g) (hn : l.length = n) (h : cs.toList = l.flatMap encInt) : Sl (w.alloc (.cells cs T)) 1 encInt (some ⟨g, 0, none⟩) n l := by
  subst hg hn
  refine ⟨rfl, fun _ => ⟨w.heap.size, 0, rfl, by simp, fun k x hk j v hv => ?_⟩⟩
  have h1 := flatMap_at encInt_len l k x j v hk hv
  have h2 := (Blk.new w cs T).2 (k * 1 + j) v (by rw [h]; exact h1)
  rw [Nat.zero_add]
  exact h2
/-- A state whose numbers an int can hold. -/
def stBd (s : St) : Prop := int64 s.t ∧ int64 s.p.x ∧ int64 s.p.y ∧ int64 s.f.x ∧ int64 s.f.y ∧ int64 s.d ∧ int64 s.g
end Go.Proofs.Ytlegilbiapbfkaa

/- The reference's runs: l21Ok, l21To, RunScore, RunHashes. -/
namespace Go.Proofs.Ytlegilbiapbfkaa
open Go.ChangeShapes Go.WideShapes Go.ChangeAt Go.RowKit
/-- What a level must be so that a run can be reckoned. -/
structure LevG (l : Lev) : Prop where
  st : vOk l.start = true
  w : ∀ b ∈ l.walls, bdBx b
  nw : l.walls.length ≤ 1000000
  ng : l.gates.length ≤ 1000000
  b0 : 0 ≤ l.bans
  b1 : l.bans ≤ 1000
theorem LevG.of_ok {l : Lev} (h : levOk l = true) : LevG l := by
  obtain ⟨_, _, h3, h4, h5, h6, _, _, h9, _⟩ := levOk_iff.1 h
  exact ⟨h3, fun b hb => bxOk_bdBx (h5 b hb), by omega, by omega, h9.1, by omega⟩
theorem legal_inps {l : Lev} {ins : List Inp} (h : legal l ins < 0) : ∀ x ∈ ins, inpOk x = true := by
  rcases legal_cases l ins with ⟨_, h1⟩ | ⟨k, _, h2, _⟩
  · intro x hx
    obtain ⟨k, hk⟩ := List.getElem?_of_mem hx
    have hb := h1 k (List.getElem?_eq_some_iff.1 hk).1
    rw [badAt_eq hk] at hb
    simp only [Bool.or_eq_false_iff, Bool.not_eq_false'] at hb
    exact folB_inp hb.2.2
  · rw [h2] at h; omega
theorem legal_len {l : Lev} {ins : List Inp} (h : legal l ins < 0) (ht : l.ticks ≤ 60) (h0 : 0 ≤ l.ticks) : ins.length ≤ 60 ∧ (ins.length : Int) ≤ l.ticks := by
  rcases legal_cases l ins with ⟨_, h1⟩ | ⟨k, _, h2, _⟩
  · cases hl : ins.length with
    | zero => omega
    | succ n =>
      have hx : ins[n]? = some (ins[n]'(by omega)) := List.getElem?_eq_getElem _
      have hb := h1 n (by omega)
      rw [badAt_eq hx] at hb
      simp only [Bool.or_eq_false_iff, decide_eq_false_iff_not] at hb
      omega
  · rw [h2] at h; omega
theorem runOk_iff {l : Lev} {ins : List Inp} : runOk l ins = true ↔ levOk l = true ∧ legal l ins < 0 := by simp [runOk]
theorem runOk_bd {l : Lev} {ins : List Inp} (h : runOk l ins = true) : LevG l ∧ ins.length ≤ 60 ∧ (ins.length : Int) ≤ l.ticks ∧ (∀ x ∈ ins, inpOk x = true) ∧ (∀ x ∈ ins, -1 ≤ x.s ∧ x.s ≤ 1) := by
  obtain ⟨h1, h2⟩ := runOk_iff.1 h
  obtain ⟨_, hT, _⟩ := levOk_iff.1 h1
  obtain ⟨h3, h4⟩ := legal_len h2 (by omega) (by omega)
  have h5 := legal_inps h2
  exact ⟨LevG.of_ok h1, h3, h4, h5, fun x hx => inpOk_s (h5 x hx)⟩
end Go.Proofs.Ytlegilbiapbfkaa

/- The reference's RunHashes. -/
namespace Go.Proofs.Ytlegilbiapbfkaa
open Go.ChangeShapes Go.WideShapes Go.ChangeAt Go.RowKit
theorem sOk_stBd {l : Lev} {s : St} (h : sOk l s) (hl : l.gates.length ≤ 1000000) (t0 : 0 ≤ s.t) (t1 : s.t ≤ 1000000) : stBd s := by
  have hp := vOk_iff.1 h.p
  have hf := fOk_bd h.f
  have h0 := h.d0
  have h1 := h.d1
  have h2 := h.g0
  have h3 := h.g1
  unfold stBd int64
  omega
theorem runTo_stBd {l : Lev} {ins : List Inp} (hL : LevG l) (n : Nat) (hn : n ≤ ins.length) (h : ins.length ≤ 100000) : stBd (runTo l ins n) := by
  obtain ⟨a, b⟩ := runTo_t l ins n hn
  exact sOk_stBd (runTo_ok ins n hL.st) hL.ng a (by omega)
theorem own_nil_at (w : World) (B N : Nat) (T : TypeId) (hB : B ≤ w.heap.size) (hN : w.heap.size = N) : Own (w.alloc (.cells #[] T)) B T 1 encInt (.slice (some ⟨N, 0, none⟩) 0 0) [] := hN ▸ Own.nil_lit w B T hB
end Go.Proofs.Ytlegilbiapbfkaa

/- Runs and replays: the plain laws. No program is named here. -/
namespace Go.Proofs.Ytlegilbiapbfkaa
open Go.RowKit
theorem runTo_snoc (l : Lev) (out : List Inp) (x : Inp) : runTo l (out ++ [x]) (out ++ [x]).length = stepS l (runTo l out out.length) x := by
  unfold runTo
  rw [List.take_length, List.take_length, List.foldl_append]
  rfl
theorem steerOf_snoc (out : List Inp) (x : Inp) : steerOf (out ++ [x]) = x.s := by simp [steerOf]
theorem hashS_bd (s : St) : 0 ≤ hashS s ∧ hashS s ≤ 1000002 := hashL_bd ⟨by omega, by omega⟩ _
theorem hashB_iff {n : Int} : hashB n = true ↔ 0 ≤ n ∧ n ≤ 1000002 := inR_iff
theorem hashesR_ok (l : Lev) (ins : List Inp) : ∀ x ∈ hashesR l ins, 0 ≤ x ∧ x ≤ 1000002 := by
  intro x hx
  unfold hashesR at hx
  split at hx
  · unfold hashesTo at hx
    obtain ⟨k, _, rfl⟩ := List.mem_map.1 hx
    exact hashS_bd _
  · cases hx
theorem hashesR_len {l : Lev} {ins : List Inp} (h : runOk l ins = true) : (hashesR l ins).length = ins.length / 5 := by
  unfold hashesR
  rw [h, if_pos rfl, hashesTo_len]
theorem hashesR_no {l : Lev} {ins : List Inp} (h : runOk l ins = false) : hashesR l ins = [] := by
  unfold hashesR
  rw [h]
  rfl
theorem scoreR_bd (l : Lev) (ins : List Inp) : -1 ≤ scoreR l ins ∧ scoreR l ins ≤ 60 := by
  unfold scoreR
  cases h : runOk l ins with
  | false => simp
  | true =>
    obtain ⟨_, h60, _⟩ := runOk_bd h
    obtain ⟨a, b⟩ := runTo_t l ins ins.length (Nat.le_refl _)
    simp only [if_true]
    split
    · omega
    · omega
/-- The made replay ahead of its tag. -/
def baseRep (l : Lev) (pl : Int) (ins : List Inp) : Rep := ⟨l.id, pl, max (scoreR l ins) 0, ins, hashesR l ins, 0⟩
def makeRep (l : Lev) (pl key : Int) (ins : List Inp) : Rep := ⟨l.id, pl, max (scoreR l ins) 0, ins, hashesR l ins, tagL key (repList (baseRep l pl ins))⟩
def makeOk (l : Lev) (pl key : Int) (ins : List Inp) : Bool := runOk l ins && (inR 0 9 pl && inR 1 9999 key)
def zeroRep : Rep := ⟨0, 0, 0, [], [], 0⟩
def makeR (l : Lev) (pl key : Int) (ins : List Inp) : Rep := if makeOk l pl key ins then makeRep l pl key ins else zeroRep
theorem makeOk_iff {l : Lev} {pl key : Int} {ins : List Inp} : makeOk l pl key ins = true ↔ runOk l ins = true ∧ (0 ≤ pl ∧ pl ≤ 9) ∧ (1 ≤ key ∧ key ≤ 9999) := by
  simp only [makeOk, Bool.and_eq_true, inR_iff]
theorem tagL_bd (key : Int) (l : List Int) : 0 ≤ tagL key l ∧ tagL key l ≤ 1000002 := hstep_bd _ _
theorem replayOk_mk {l : Lev} {pl t : Int} {ins : List Inp} (h : runOk l ins = true) (hp : 0 ≤ pl ∧ pl ≤ 9) (ht : 0 ≤ t ∧ t ≤ 1000002) : replayOk ⟨l.id, pl, max (scoreR l ins) 0, ins, hashesR l ins, t⟩ = true := by
  obtain ⟨_, h60, _, hv, _⟩ := runOk_bd h
  obtain ⟨hi, _⟩ := levOk_iff.1 (runOk_iff.1 h).1
  have hs := scoreR_bd l ins
  simp only [replayOk, Bool.and_eq_true]
  refine ⟨inR_iff.2 hi, inR_iff.2 hp, inR_iff.2 (by omega), inputsOkB_iff.2 ⟨hv, h60⟩, ?_, hashB_iff.2 ht, ?_⟩
  · unfold lenB
    rw [hashesR_len h]
    simp
  · rw [List.all_eq_true]
    intro x hx
    exact hashB_iff.2 (hashesR_ok l ins x hx)
theorem baseRep_ok {l : Lev} {pl : Int} {ins : List Inp} (h : runOk l ins = true) (hp : 0 ≤ pl ∧ pl ≤ 9) : replayOk (baseRep l pl ins) = true := replayOk_mk h hp (by omega)
theorem makeRep_ok {l : Lev} {pl key : Int} {ins : List Inp} (h : makeOk l pl key ins = true) : replayOk (makeRep l pl key ins) = true := by
  obtain ⟨h1, h2, _⟩ := makeOk_iff.1 h
  exact replayOk_mk h1 h2 (tagL_bd _ _)
theorem code_bd {x : Inp} (h : inpOk x = true) : 0 ≤ code x ∧ code x ≤ 9 := by
  have h' := inpOk_bd h
  obtain ⟨s, p, z⟩ := x
  simp only at h'
  cases z <;> simp [code] <;> omega
/-- The numbers that are tagged are small. -/
theorem repList_bd {r : Rep} (h : replayOk r = true) : ∀ x ∈ repList r, 0 ≤ x ∧ x ≤ 1000002 := by
  simp only [replayOk, Bool.and_eq_true, inR_iff] at h
  obtain ⟨h1, h2, h3, h4, h5, h6, h7⟩ := h
  obtain ⟨hv, hl⟩ := inputsOkB_iff.1 h4
  intro x hx
  unfold repList repHead at hx
  simp only [List.mem_append, List.mem_cons, List.not_mem_nil, or_false, List.mem_map] at hx
  rcases hx with ((rfl | rfl | rfl | rfl) | ⟨y, hy, rfl⟩) | hx
  · omega
  · omega
  · omega
  · omega
  · have := code_bd (hv y hy); omega
  · exact hashB_iff.1 (List.all_eq_true.1 h7 x hx)
theorem repList_len (r : Rep) : (repList r).length = 4 + r.ins.length + r.hs.length := by
  simp [repList, repHead]; omega
end Go.Proofs.Ytlegilbiapbfkaa

/- Plain laws of runs: prefixes, ends, gates, pauses. No program is named here. (Round B) -/
namespace Go.Proofs.Ytlegilbiapbfkaa
open Go.RowKit
theorem legal_no {l : Lev} {ins : List Inp} (h : legal l ins < 0) : ∀ j, j < ins.length → badAt l ins j = false := by
  rcases legal_cases l ins with ⟨_, h2⟩ | ⟨k, _, h2, _⟩
  · exact h2
  · omega
theorem runOk_iff2 {l : Lev} {ins : List Inp} : runOk l ins = true ↔ levOk l = true ∧ ∀ j, j < ins.length → badAt l ins j = false := by
  unfold runOk
  rw [Bool.and_eq_true, decide_eq_true_eq]
  constructor
  · rintro ⟨h1, h2⟩; exact ⟨h1, legal_no h2⟩
  · rintro ⟨h1, h2⟩; exact ⟨h1, by rw [legal_none h2]; omega⟩
theorem badAt_take {l : Lev} {ins : List Inp} {n k : Nat} (h : k < n) : badAt l (ins.take n) k = badAt l ins k := by
  unfold badAt
  rw [List.getElem?_take_of_lt h, List.take_take, List.take_take, Nat.min_eq_left (by omega), Nat.min_eq_left (by omega)]
theorem runOk_take {l : Lev} {ins : List Inp} (h : runOk l ins = true) (n : Nat) : runOk l (ins.take n) = true := by
  obtain ⟨h1, h2⟩ := runOk_iff2.1 h
  refine runOk_iff2.2 ⟨h1, fun j hj => ?_⟩
  rw [List.length_take] at hj
  rw [badAt_take (by omega)]
  exact h2 j (by omega)
theorem step_ended {l : Lev} {s : St} (x : Inp) (h : s.dn = true ∨ s.ov = true) : stepS l s x = s := by
  unfold stepS
  rw [if_pos (by rcases h with h | h <;> simp [h])]
theorem runTo_over (l : Lev) (ins : List Inp) (n : Nat) (h : ins.length ≤ n) : runTo l ins n = runTo l ins ins.length := by
  unfold runTo
  rw [List.take_of_length_le h, List.take_of_length_le (Nat.le_refl _)]
/-- What has ended stays as it is. -/
theorem ended_stays {l : Lev} {ins : List Inp} {j : Nat} (h : (runTo l ins j).dn = true ∨ (runTo l ins j).ov = true) : ∀ k, runTo l ins (j + k) = runTo l ins j
  | 0 => rfl
  | k + 1 => by
    have ih := ended_stays h k
    rcases Nat.lt_or_ge (j + k) ins.length with hlt | hge
    · rw [← Nat.add_assoc, runTo_succ (List.getElem?_eq_getElem hlt), ih]
      exact step_ended _ h
    · rw [← ih, runTo_over l ins (j + (k + 1)) (by omega), runTo_over l ins (j + k) hge]
/-- A run that has finished, or left the range, has done so at its tick. -/
theorem done_at {l : Lev} {ins : List Inp} : ∀ n, n ≤ ins.length → (runTo l ins n).dn = true ∨ (runTo l ins n).ov = true →
    ∃ t : Nat, (runTo l ins n).t = t ∧ 1 ≤ t ∧ t ≤ n ∧ runTo l ins t = runTo l ins n ∧ ∀ j, j < t → (runTo l ins j).dn = false ∧ (runTo l ins j).ov = false
  | 0, _, h => by simp [runTo_zero, st0] at h
  | n + 1, hn, h => by
    have hx : ins[n]? = some (ins[n]'(by omega)) := List.getElem?_eq_getElem _
    by_cases hd : (runTo l ins n).dn = true ∨ (runTo l ins n).ov = true
    · have e : runTo l ins (n + 1) = runTo l ins n := ended_stays hd 1
      rw [e]
      obtain ⟨t, h1, h2, h3, h4, h5⟩ := done_at n (by omega) hd
      exact ⟨t, h1, h2, by omega, h4, h5⟩
    · have hnd : (runTo l ins n).dn = false ∧ (runTo l ins n).ov = false := by simpa [not_or] using hd
      refine ⟨n + 1, ?_, by omega, Nat.le_refl _, rfl, fun j hj => ?_⟩
      · obtain ⟨_, h2⟩ := runTo_t l ins n (by omega)
        rw [hnd.1, hnd.2] at h2
        simp only [Bool.false_eq_true, or_self, and_false, or_false] at h2
        rw [runTo_succ hx]
        rcases step_t l (runTo l ins n) (ins[n]'(by omega)) with ⟨ha, _⟩ | ⟨_, _, hc⟩
        · exact absurd ha hd
        · rw [hc, h2]; simp
      · by_cases hj2 : (runTo l ins j).dn = true ∨ (runTo l ins j).ov = true
        · have e := ended_stays hj2 (n - j)
          rw [show j + (n - j) = n by omega] at e
          rw [e] at hnd
          rw [hnd.1, hnd.2] at hj2
          simp at hj2
        · simpa [not_or] using hj2
theorem step_fin {l : Lev} {s : St} (x : Inp) (h : s.dn = true → hasV l.fin s.p = true) : (stepS l s x).dn = true → hasV l.fin (stepS l s x).p = true := by
  unfold stepS
  split
  · exact h
  · split
    · exact h
    · unfold driveS
      simp only
      split
      · intro hd
        simp only [Bool.and_eq_true] at hd
        exact hd.2
      · exact h
theorem foldl_fin {l : Lev} : ∀ (ins : List Inp) (s : St), (s.dn = true → hasV l.fin s.p = true) → (ins.foldl (stepS l) s).dn = true → hasV l.fin (ins.foldl (stepS l) s).p = true
  | [], _, h => h
  | x :: ins, _, h => foldl_fin ins _ (step_fin x h)
/-- Who has finished is at the finish. -/
theorem runTo_fin {l : Lev} (ins : List Inp) (n : Nat) : (runTo l ins n).dn = true → hasV l.fin (runTo l ins n).p = true := foldl_fin _ _ (by intro h; cases h)
theorem scoreR_pos {l : Lev} {ins : List Inp} (h : 0 ≤ scoreR l ins) : runOk l ins = true ∧ (runTo l ins ins.length).dn = true ∧ scoreR l ins = (runTo l ins ins.length).t := by
  unfold scoreR at h ⊢
  split at h
  · rename_i h1
    split at h
    · rename_i h2
      rw [if_pos h1, if_pos h2]
      exact ⟨h1, h2, rfl⟩
    · omega
  · omega
/-- A score: the tick at which the run has finished. -/
theorem score_at {l : Lev} {ins : List Inp} (h : 0 ≤ scoreR l ins) : ∃ t : Nat, scoreR l ins = t ∧ 1 ≤ t ∧ t ≤ ins.length ∧ runTo l ins t = runTo l ins ins.length ∧ (runTo l ins t).dn = true ∧ (runTo l ins t).t = t ∧ (∀ j, j < t → (runTo l ins j).dn = false) ∧ runOk l ins = true := by
  obtain ⟨h1, h2, h3⟩ := scoreR_pos h
  obtain ⟨t, k1, k2, k3, k4, k5⟩ := done_at ins.length (Nat.le_refl _) (.inl h2)
  exact ⟨t, by rw [h3, k1], k2, k3, k4, by rw [k4]; exact h2, by rw [k4]; exact k1, fun j hj => (k5 j hj).1, h1⟩
theorem scoreR_take {l : Lev} {ins : List Inp} {n : Nat} (hr : runOk l ins = true) (hn : n ≤ ins.length) : scoreR l (ins.take n) = if (runTo l ins n).dn then (runTo l ins n).t else -1 := by
  unfold scoreR
  rw [runOk_take hr n, if_pos rfl, List.length_take, Nat.min_eq_left hn, runTo_take (Nat.le_refl _)]
theorem score_cut {l : Lev} {ins : List Inp} {t : Nat} (h : scoreR l ins = t) : t ≤ ins.length ∧ scoreR l (ins.take t) = t ∧ (1 ≤ t → scoreR l (ins.take (t - 1)) = -1) := by
  obtain ⟨t', h1, h2, h3, h4, h5, h6, h7, h8⟩ := score_at (l := l) (ins := ins) (by omega)
  obtain rfl : t' = t := by omega
  refine ⟨h3, ?_, fun _ => ?_⟩
  · rw [scoreR_take h8 h3, h5, if_pos rfl, h6]
  · rw [scoreR_take h8 (by omega), h7 _ (by omega)]; rfl
theorem hashesR_cut {l : Lev} {ins : List Inp} (hr : runOk l ins = true) {n : Nat} (hn : n ≤ ins.length) : hashesR l (ins.take n) = (hashesR l ins).take (n / 5) ∧ (hashesR l (ins.take n)).length = n / 5 := by
  have e : hashesR l (ins.take n) = hashesTo l (ins.take n) (n / 5) := by
    unfold hashesR
    rw [runOk_take hr n, if_pos rfl, List.length_take, Nat.min_eq_left hn]
  rw [e]
  refine ⟨?_, hashesTo_len _ _ _⟩
  unfold hashesR
  rw [hr, if_pos rfl]
  unfold hashesTo
  rw [← List.map_take, List.take_range, Nat.min_eq_left (Nat.div_le_div_right hn)]
  refine List.map_congr_left fun i hi => ?_
  rw [List.mem_range] at hi
  rw [runTo_take (by omega)]
theorem hashesR_at {l : Lev} {ins : List Inp} {k : Nat} (hr : runOk l ins = true) (hk : k < ins.length / 5) : (hashesR l ins)[k]? = some (hashS (runTo l ins (5 * (k + 1)))) := by
  unfold hashesR
  rw [hr, if_pos rfl]
  unfold hashesTo
  rw [List.getElem?_map, List.getElem?_range hk]
  rfl
/-- Every state of a run is valid. -/
theorem run_valid {l : Lev} {ins : List Inp} (hr : runOk l ins = true) (n : Nat) (hn : n ≤ ins.length) : validB l (runTo l ins n) = true := by
  obtain ⟨hL, _⟩ := runOk_iff2.1 hr
  obtain ⟨_, h60, ht, _, _⟩ := runOk_bd hr
  have hl := levOk_iff.1 hL
  obtain ⟨t0, t1⟩ := runTo_t l ins n hn
  exact sOk_valid hL (runTo_ok ins n hl.2.2.1) t0 (by omega) (runTo_free ins n hl.2.2.2.2.2.2.2.2.2)
theorem valid_own {l : Lev} {s : St} (h : validB l s = true) : ownB s = true := (validB_iff.1 h).2.1
/-- The next tick of a run can be reckoned. -/
theorem run_next {l : Lev} {ins : List Inp} (hr : runOk l ins = true) (n : Nat) (x : Inp) (hx : ins[n]? = some x) : inpOk x = true ∧ ((runTo l ins n).t = l.ticks → (runTo l ins n).dn = true ∨ (runTo l ins n).ov = true) := by
  have hn := (List.getElem?_eq_some_iff.1 hx).1
  obtain ⟨_, h60, ht, hi, _⟩ := runOk_bd hr
  refine ⟨hi x (List.mem_of_getElem? hx), fun e => ?_⟩
  obtain ⟨t0, t1⟩ := runTo_t l ins n (by omega)
  rcases t1 with t1 | t1
  · omega
  · exact t1.2
/-! ### gates -/
/-- How many gates a path passes, one after the other. -/
def passL (gs : List Bx) (k : Nat) (p : V2) : Nat := if (gs[k]?.map fun b => hasV b p).getD false then k + 1 else k
def passTo (l : Lev) (ins : List Inp) : Nat → Nat
  | 0 => 0
  | i + 1 => passL l.gates (passTo l ins i) (runTo l ins (i + 1)).p
theorem passL_le {gs : List Bx} {k : Nat} {p : V2} (h : k ≤ gs.length) : passL gs k p ≤ gs.length ∧ k ≤ passL gs k p := by
  unfold passL
  split
  · rename_i h1
    rcases Nat.lt_or_ge k gs.length with hlt | hge
    · omega
    · rw [List.getElem?_eq_none hge] at h1; simp at h1
  · omega
theorem passTo_le (l : Lev) (ins : List Inp) : ∀ i, passTo l ins i ≤ l.gates.length
  | 0 => Nat.zero_le _
  | i + 1 => (passL_le (passTo_le l ins i)).1
theorem step_gate (l : Lev) (s : St) (x : Inp) : (stepS l s x).g = s.g ∨ (stepS l s x).g = s.g + 1 ∧ gateB l s.g (stepS l s x).p = true := by
  unfold stepS
  split
  · exact .inl rfl
  · split
    · exact .inl rfl
    · unfold driveS
      simp only
      split
      · split
        · rename_i h; exact .inr ⟨rfl, h⟩
        · exact .inl rfl
      · exact .inl rfl
theorem gateB_at {l : Lev} {g : Nat} {p : V2} (h : gateB l g p = true) : passL l.gates g p = g + 1 := by
  unfold gateB at h
  rw [Int.toNat_natCast] at h
  unfold passL
  cases e : l.gates[g]? with
  | none => rw [e] at h; cases h
  | some b =>
    rw [e] at h
    simp only [Bool.and_eq_true] at h
    simp [h.2]
/-- The path passes at least the gates that the run has passed. -/
theorem passTo_ge {l : Lev} {ins : List Inp} (hv : vOk l.start = true) : ∀ i, i ≤ ins.length → (runTo l ins i).g ≤ passTo l ins i
  | 0, _ => by simp [runTo_zero, st0]
  | i + 1, hi => by
    have ih := passTo_ge (ins := ins) hv i (by omega)
    have hx : ins[i]? = some (ins[i]'(by omega)) := List.getElem?_eq_getElem _
    have hs := runTo_ok ins i hv
    have hle := passTo_le l ins i
    have hm := (passL_le (p := (runTo l ins (i + 1)).p) hle).2
    have hp : passTo l ins (i + 1) = passL l.gates (passTo l ins i) (runTo l ins (i + 1)).p := rfl
    rcases step_gate l (runTo l ins i) (ins[i]'(by omega)) with h | ⟨h, h2⟩
    · rw [runTo_succ hx, h]; rw [runTo_succ hx] at hp hm; omega
    · rw [← runTo_succ hx] at h h2
      obtain ⟨g, hg⟩ := Int.eq_ofNat_of_zero_le hs.g0
      rw [hg] at h h2 ih
      rw [h]
      rcases Nat.lt_or_ge g (passTo l ins i) with hlt | hge
      · omega
      · have e : passTo l ins i = g := by omega
        rw [e, gateB_at h2] at hp
        omega
/-- Who has finished has passed all gates, one after the other. -/
theorem passed_all {l : Lev} {ins : List Inp} (hv : vOk l.start = true) (hd : (runTo l ins ins.length).dn = true) : passTo l ins ins.length = l.gates.length := by
  have h1 := passTo_ge (ins := ins) hv ins.length (Nat.le_refl _)
  have h2 := (runTo_ok ins ins.length hv).dg hd
  have h3 := passTo_le l ins ins.length
  omega
/-! ### a pause ahead -/
def late (s : St) : St := ⟨s.t + 1, s.p, s.f, s.d, s.g, s.dn, s.ov⟩
def pauseI : Inp := ⟨0, 0, true⟩
theorem step_late (l : Lev) (s : St) (x : Inp) : stepS l (late s) x = late (stepS l s x) := by
  unfold stepS late
  simp only
  split
  · rfl
  · split
    · rfl
    · unfold driveS
      simp only
      split <;> rfl
theorem foldl_late (l : Lev) : ∀ (ins : List Inp) (s : St), ins.foldl (stepS l) (late s) = late (ins.foldl (stepS l) s)
  | [], _ => rfl
  | x :: ins, s => by rw [List.foldl_cons, List.foldl_cons, step_late, foldl_late l ins]
theorem runTo_pause (l : Lev) (ins : List Inp) (n : Nat) : runTo l (pauseI :: ins) (n + 1) = late (runTo l ins n) := by
  unfold runTo
  rw [List.take_succ_cons, List.foldl_cons, ← foldl_late]
  rfl
theorem score_pause {l : Lev} {ins : List Inp} (h : 0 ≤ scoreR l ins) (hr : runOk l (pauseI :: ins) = true) : scoreR l (pauseI :: ins) = scoreR l ins + 1 := by
  obtain ⟨h1, h2, h3⟩ := scoreR_pos h
  rw [h3]
  unfold scoreR
  rw [hr, if_pos rfl, List.length_cons, runTo_pause]
  unfold late
  rw [h2]; rfl
/-! ### one tick -/
theorem step_gate1 {l : Lev} {s : St} (x : Inp) (h : (stepS l s x).g ≠ s.g) : (stepS l s x).g = s.g + 1 ∧ gateB l s.g (stepS l s x).p = true := by
  rcases step_gate l s x with h1 | h1
  · exact absurd h1 h
  · exact h1
theorem step_far {l : Lev} {s : St} (x : Inp) (h : fOk s.f) : (-2000 ≤ (stepS l s x).p.x - s.p.x ∧ (stepS l s x).p.x - s.p.x ≤ 2000) ∧ (-2000 ≤ (stepS l s x).p.y - s.p.y ∧ (stepS l s x).p.y - s.p.y ≤ 2000) := by
  unfold stepS
  split
  · omega
  · split
    · simp only; omega
    · unfold driveS
      simp only
      split
      · have := moveV_bd (l := l) (p := s.p) (fastV_ok (turnOf s.d x.s) x.p h)
        simp only; omega
      · simp only; omega
theorem step_nowall {l : Lev} {s : St} {pw : Int} (hw : l.walls = []) (hd : s.dn = false) (ho : s.ov = false) (h2 : (stepS l s ⟨0, pw, false⟩).ov = false) : (stepS l s ⟨0, pw, false⟩).f = fastV s.f (turnOf s.d 0) pw := by
  have hf : ∀ v, freeB l v = true := by intro v; unfold freeB; rw [hw]; rfl
  unfold stepS at h2 ⊢
  simp only [hd, ho, Bool.or_self, Bool.false_eq_true, if_false] at h2 ⊢
  unfold driveS at h2 ⊢
  simp only at h2 ⊢
  split at h2
  · rename_i hv
    rw [if_pos hv]
    simp only
    unfold moveV moveX
    rw [if_pos (hf _)]
    unfold moveY
    rw [if_pos (hf _)]
  · cases h2
theorem brake_less (f : V2) (d : Int) : lenV (fastV f d 2) ≤ lenV (fastV f d 0) := by
  unfold fastV
  simp only [show ¬ ((2 : Int) = 1) by omega, show ¬ ((0 : Int) = 1) by omega, show ¬ ((0 : Int) = 2) by omega, if_false, if_true]
  exact lenV_mono (mul1_mono (by omega) (by omega)) (mul1_mono (by omega) (by omega))
end Go.Proofs.Ytlegilbiapbfkaa
