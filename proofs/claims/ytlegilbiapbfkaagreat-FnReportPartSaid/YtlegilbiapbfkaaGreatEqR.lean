/- Two equal reports are told equal; facts of lists of hashes. (Round C) -/
import Derived.Test.YtlegilbiapbfkaaGreatDvgE
import Derived.Test.YtlegilbiapbfkaaGreatRunR
import Derived.Test.YtlegilbiapbfkaaGreatConvV
import Derived.Test.YtlegilbiapbfkaaGreatSpecM
namespace Go.Proofs.YtlegilbiapbfkaaGreat
open Go.ChangeShapes Go.WideShapes Go.ChangeAt Go.RowKit
set_option maxHeartbeats 1000000 in
theorem eqRptIn (a b c : Int) (w : World) : (Op.equalIn 10000 35 (.agg #[.int .i64 a, .int .i64 b, .int .i64 c]) (.agg #[.int .i64 a, .int .i64 b, .int .i64 c])).run Sq.prog w = .ok true w := by
  have hu : Sq.prog.underlying 35 = some (.struct (Sq.prog.fieldsOf 35)) := by kernel_rfl
  have hp : Sq.prog.stoodInHeld 35 = false := by kernel_rfl
  have hi : Sq.prog.underlying 3 = some (.int .i64) := by kernel_rfl
  have hm : ((Sq.prog.fieldsOf 35).toList.map fun f => (f.name, f.type, f.offset)) = [("Index", 3, 0), ("From", 3, 1), ("To", 3, 2)] := by kernel_rfl
  rw [show (10000 : Nat) = 9999 + 1 from rfl, run_equalIn_struct w _ _ _ _ hu hp]
  clear hu hp
  revert hm
  generalize (Sq.prog.fieldsOf 35).toList = fs
  intro hm
  obtain ⟨f, fs1, rfl, hf, hm⟩ := List.map_eq_cons_iff.1 hm
  obtain ⟨g, fs2, rfl, hg, hm⟩ := List.map_eq_cons_iff.1 hm
  obtain ⟨h, fs3, rfl, hh, hm⟩ := List.map_eq_cons_iff.1 hm
  obtain rfl := List.map_eq_nil_iff.1 hm
  simp only [Prod.mk.injEq] at hf hg hh
  obtain ⟨f1, f2, f3⟩ := hf
  obtain ⟨g1, g2, g3⟩ := hg
  obtain ⟨h1, h2, h3⟩ := hh
  simp [Op.eqFields, go_sem, hi, f1, f2, f3, g1, g2, g3, h1, h2, h3]
theorem firstD_pre {a : List Int} (h : 0 < a.length) : firstD a (a.take (a.length - 1)) = (a.length - 1 : Nat) :=
  firstD_at (by rw [List.length_take]; omega) (fun i hi => difB_same (by omega) (by rw [List.getElem?_take, if_pos hi])) (by unfold difB; rw [decide_eq_true (show (a.take (a.length - 1)).length ≤ a.length - 1 by rw [List.length_take]; omega)]; simp)
theorem repTake_any (l : Lev) (ins : List Inp) (hs : List Int) (u : Nat) (A A' A2 A3 : Option Addr) (c c' c2 c3 : Nat) (w : World) (h : Sl w 4 encBx A l.walls.length l.walls) (hg : Sl w 4 encBx A' l.gates.length l.gates) (e : A = none → c = 0) (e' : A' = none → c' = 0) (hn1 : (l.walls.length : Nat) ≤ 9223372036854775807) (hn2 : (l.gates.length : Nat) ≤ 9223372036854775807) (hi : Sl w 3 encInp A2 ins.length ins) (hn3 : (ins.length : Nat) ≤ 9223372036854775807) (hcl : Sl w 1 encInt A3 u (hs.take u)) (hu : u ≤ hs.length) (h64 : u ≤ 64) :
    Calls Sq.prog 11 #[.agg #[.int .i64 l.id, .int .i64 l.ticks, .int .i64 l.start.x, .int .i64 l.start.y, .slice A l.walls.length c, .slice A' l.gates.length c', .int .i64 l.fin.lo.x, .int .i64 l.fin.lo.y, .int .i64 l.fin.hi.x, .int .i64 l.fin.hi.y, .int .i64 l.bans], .slice A2 ins.length c2, .slice A3 u c3] w (RetRpt l ins (hs.take u) w) := by
  have := implDivergeReport_any l ins (hs.take u) A A' A2 A3 c c' c2 c3 w h hg e e' hn1 hn2 hi hn3 (by rw [len_take hu]; exact hcl) (by rw [len_take hu]; exact h64)
  rw [len_take hu] at this
  exact this
theorem rep_yes {l : Lev} {ins : List Inp} {cl : List Int} (h : repOk l ins cl = true) : runOk l ins = true ∧ ∃ d : Nat, firstD (hashesR l ins) cl = d ∧ repK l ins cl = d ∧ repF l ins cl = d * 5 ∧ repT l ins cl = min (((d : Int) + 1) * 5) ins.length ∧ d ≤ (hashesR l ins).length ∧ d ≤ cl.length ∧ (hashesR l ins).take d = cl.take d := by
  have h' := h
  unfold repOk at h'
  simp only [Bool.and_eq_true, decide_eq_true_eq] at h'
  obtain ⟨h1, h2⟩ := h'
  rcases firstD_cases (hashesR l ins) cl with ⟨e, _⟩ | ⟨d, e, h3, h4, _, h5, _⟩
  · omega
  · refine ⟨h1, d, e, ?_, ?_, ?_, h3, h4, h5⟩
    · unfold repK; rw [h, if_pos rfl, e]
    · unfold repF; rw [h, if_pos rfl, e]
    · unfold repT; rw [h, if_pos rfl, e]
end Go.Proofs.YtlegilbiapbfkaaGreat
