/- A tick of the program, whatever the input; the states of a run go through a channel. (Round B) -/
import Derived.Test.YtmfhfebakdkkdaaImpL
import Derived.Test.YtmfhfebakdkkdaaChan
import Derived.Test.YtmfhfebakdkkdaaSpecJ
namespace Go.Proofs.Ytmfhfebakdkkdaa
open Go.ChangeShapes Go.WideShapes Go.ChangeAt Go.RowKit Go.Conc
set_option maxRecDepth 100000 in
theorem after_any (l : Lev) (s : St) (x : Inp) (A A' : Option Addr) (c c' : Nat) (w : World) (h : Sl w 4 encBx A l.walls.length l.walls) (h' : Sl w 4 encBx A' l.gates.length l.gates) (hn : (l.walls.length : Nat) ≤ 9223372036854775807)
    (hl : levOk l = true) (hs : sOk l s) (hx0 : -1 ≤ x.s) (hx1 : x.s ≤ 1) (ht0 : 0 ≤ s.t) (ht1 : s.t ≤ 1000) :
    Calls Try.prog 70 #[.agg #[.int .i64 l.id, .int .i64 l.ticks, .int .i64 l.start.x, .int .i64 l.start.y, .slice A l.walls.length c, .slice A' l.gates.length c', .int .i64 l.fin.lo.x, .int .i64 l.fin.lo.y, .int .i64 l.fin.hi.x, .int .i64 l.fin.hi.y, .int .i64 l.bans], .agg #[.int .i64 s.t, .int .i64 s.p.x, .int .i64 s.p.y, .int .i64 s.f.x, .int .i64 s.f.y, .int .i64 s.d, .int .i64 s.g, .bool s.dn, .bool s.ov], .agg #[.int .i64 x.s, .int .i64 x.p, .bool x.z]] w fun e w' => e = .returned (.agg #[.int .i64 (stepS l s x).t, .int .i64 (stepS l s x).p.x, .int .i64 (stepS l s x).p.y, .int .i64 (stepS l s x).f.x, .int .i64 (stepS l s x).f.y, .int .i64 (stepS l s x).d, .int .i64 (stepS l s x).g, .bool (stepS l s x).dn, .bool (stepS l s x).ov]) ∧ Below w.heap.size w w' := by
  have hgl : l.gates.length ≤ 3 := by simp only [levOk, Bool.and_eq_true, decide_eq_true_eq] at hl; exact hl.2.2.2.2.2.1
  rcases Bool.eq_false_or_eq_true (s.dn || s.ov) with hd | hd
  · exact after_stays l s x A A' c c' w hd
  · simp only [Bool.or_eq_false_iff] at hd
    rcases Bool.eq_false_or_eq_true x.z with hz | hz
    · exact after_pause l s x A A' c c' w hd.1 hd.2 hz ⟨ht0, ht1⟩
    · exact after_drive l s x A A' c c' w h h' hn hl hs.p hs.f hs.d0 hs.d1 hx0 hx1 hs.g0 (by have := hs.g1; omega) ht0 ht1 hd.1 hd.2 hz
def encSt (s : St) : List Value := [.int .i64 s.t, .int .i64 s.p.x, .int .i64 s.p.y, .int .i64 s.f.x, .int .i64 s.f.y, .int .i64 s.d, .int .i64 s.g, .bool s.dn, .bool s.ov]
theorem encSt_len (s : St) : (encSt s).length = 9 := rfl
theorem one_st (s : St) : ∀ u ∈ encSt s, u.oneCell' = true := by
  intro u hu
  simp only [encSt, List.mem_cons, List.not_mem_nil, or_false] at hu
  rcases hu with rfl | rfl | rfl | rfl | rfl | rfl | rfl | rfl | rfl <;> rfl
def aggSt (s : St) : Value := .agg #[.int .i64 s.t, .int .i64 s.p.x, .int .i64 s.p.y, .int .i64 s.f.x, .int .i64 s.f.y, .int .i64 s.d, .int .i64 s.g, .bool s.dn, .bool s.ov]
def statesTo (l : Lev) (ins : List Inp) (k : Nat) : List St := (List.range k).map (runTo l ins)
theorem statesTo_succ (l : Lev) (ins : List Inp) (k : Nat) : statesTo l ins (k + 1) = statesTo l ins k ++ [runTo l ins k] := by
  unfold statesTo; rw [List.range_succ, List.map_append]; rfl
theorem statesTo_len (l : Lev) (ins : List Inp) (k : Nat) : (statesTo l ins k).length = k := by simp [statesTo]
theorem after_f (l : Lev) (s s' : St) (x : Inp) (A A' : Option Addr) (c c' : Nat) (w : World) (h : Sl w 4 encBx A l.walls.length l.walls) (h' : Sl w 4 encBx A' l.gates.length l.gates) (hn : (l.walls.length : Nat) ≤ 9223372036854775807)
    (hl : levOk l = true) (hs : sOk l s) (hx0 : -1 ≤ x.s) (hx1 : x.s ≤ 1) (ht0 : 0 ≤ s.t) (ht1 : s.t ≤ 1000) (e : stepS l s x = s') :
    Calls Try.prog 70 #[.agg #[.int .i64 l.id, .int .i64 l.ticks, .int .i64 l.start.x, .int .i64 l.start.y, .slice A l.walls.length c, .slice A' l.gates.length c', .int .i64 l.fin.lo.x, .int .i64 l.fin.lo.y, .int .i64 l.fin.hi.x, .int .i64 l.fin.hi.y, .int .i64 l.bans], .agg #[.int .i64 s.t, .int .i64 s.p.x, .int .i64 s.p.y, .int .i64 s.f.x, .int .i64 s.f.y, .int .i64 s.d, .int .i64 s.g, .bool s.dn, .bool s.ov], .agg #[.int .i64 x.s, .int .i64 x.p, .bool x.z]] w fun e w' => e = .returned (.agg #[.int .i64 s'.t, .int .i64 s'.p.x, .int .i64 s'.p.y, .int .i64 s'.f.x, .int .i64 s'.f.y, .int .i64 s'.d, .int .i64 s'.g, .bool s'.dn, .bool s'.ov]) ∧ Below w.heap.size w w' := e ▸ after_any l s x A A' c c' w h h' hn hl hs hx0 hx1 ht0 ht1
theorem buf_succ (l : Lev) (ins : List Inp) (k : Nat) : ((statesTo l ins (k + 1)).map aggSt).toArray.push (aggSt (runTo l ins (k + 1))) = ((statesTo l ins (k + 1 + 1)).map aggSt).toArray := by
  rw [statesTo_succ l ins (k + 1), List.map_append]
  simp
theorem buf_size (l : Lev) (ins : List Inp) (k : Nat) : ((statesTo l ins k).map aggSt).toArray.size = k := by simp [statesTo_len]
/-- Block g is this object. -/
def Ob (w : World) (g : Nat) (o : Obj) : Prop := w.heap[g]? = some o
theorem Ob.lt {w : World} {g : Nat} {o : Obj} (h : Ob w g o) : g < w.heap.size := (Array.getElem?_eq_some_iff.1 h).1
theorem Ob.alloc {w : World} {g : Nat} {o : Obj} (h : Ob w g o) (o' : Obj) : Ob (w.alloc o') g o := (Below.heap_alloc w o' g h.lt).trans h
theorem Ob.later {w w' : World} {g : Nat} {o : Obj} (h : Ob w g o) (hb : Below w.heap.size w w') : Ob w' g o := (hb.block g h.lt).trans h
theorem Ob.far {w : World} {g : Nat} {o : Obj} (h : Ob w g o) {p : Addr} (hp : g ≠ p.block) (v : Value) : Ob (w.setCell p v) g o := (Below.heap_setCell w p v g hp).trans h
theorem Ob.grown {w w' : World} {g : Nat} {o : Obj} {row : Option Nat} (h : Ob w g o) (hg : w.grownBy w' row) (hne : some g ≠ row) : Ob w' g o := (hg.block g h.lt hne).trans h
theorem Ob.chan {w : World} {g : Nat} {o : Obj} (h : Ob w g o) (cap : Nat) (buf : Array Value) (cl : Bool) (s r : Nat) (tm : Bool) : Ob (w.setChan g cap buf cl s r tm) g (.chan cap buf cl s r tm) := heap_setChan _ _ _ _ _ _ _ _ h.lt
theorem heap_chan_ne {w : World} {g c : Nat} (h : g ≠ c) (cap : Nat) (buf : Array Value) (cl : Bool) (s r : Nat) (tm : Bool) : (w.setChan c cap buf cl s r tm).heap[g]? = w.heap[g]? := by
  simp only [World.setChan]
  rw [Array.getElem?_setIfInBounds_ne (by omega)]
theorem Bk.chan {w : World} {g c : Nat} {t : TypeId} {cs : Array Value} (h : Bk w g t cs) (hne : g ≠ c) (cap : Nat) (buf : Array Value) (cl : Bool) (s r : Nat) (tm : Bool) : Bk (w.setChan c cap buf cl s r tm) g t cs := (heap_chan_ne hne ..).trans h
def slLen : Value → Nat
  | .slice _ n _ => n
  | _ => 0
def restB (l : Lev) (ins : List Inp) (k : Nat) : Array Value := (((statesTo l ins (ins.length + 1)).drop k).map aggSt).toArray
theorem restB_size (l : Lev) (ins : List Inp) (k : Nat) : (restB l ins k).size = ins.length + 1 - k := by simp [restB, statesTo_len]
theorem statesTo_get (l : Lev) (ins : List Inp) {k n : Nat} (hk : k < n) : (statesTo l ins n)[k]? = some (runTo l ins k) := by
  unfold statesTo
  rw [List.getElem?_map, List.getElem?_range hk]
  rfl
theorem restB_cons (l : Lev) (ins : List Inp) {k : Nat} (hk : k < ins.length + 1) : restB l ins k = (aggSt (runTo l ins k) :: (((statesTo l ins (ins.length + 1)).drop (k + 1)).map aggSt)).toArray := by
  unfold restB
  have hl : k < (statesTo l ins (ins.length + 1)).length := by rw [statesTo_len]; exact hk
  have hg := statesTo_get l ins hk
  rw [List.getElem?_eq_getElem hl] at hg
  injection hg with hg
  rw [List.drop_eq_getElem_cons hl, List.map_cons, hg]
theorem restB_head (l : Lev) (ins : List Inp) {k : Nat} (hk : k < ins.length + 1) : (restB l ins k).getD 0 undef = aggSt (runTo l ins k) := by rw [restB_cons l ins hk]; rfl
theorem restB_tail (l : Lev) (ins : List Inp) {k : Nat} (hk : k < ins.length + 1) : (restB l ins k).extract 1 (restB l ins k).size = restB l ins (k + 1) := by
  have e : restB l ins (k + 1) = (((statesTo l ins (ins.length + 1)).drop (k + 1)).map aggSt).toArray := rfl
  rw [e, restB_cons l ins hk]
  simp
  rw [List.take_of_length_le (by simp)]
theorem Own.chan {α : Type} {w : World} {B : Nat} {T : TypeId} {sz : Nat} {enc : α → List Value} {v : Value} {l : List α} {c : Nat} {cap0 s0 r0 : Nat} {buf0 : Array Value} {cl0 tm0 : Bool} (h : Own w B T sz enc v l) (hc : Ob w c (.chan cap0 buf0 cl0 s0 r0 tm0)) (cap : Nat) (buf : Array Value) (cl : Bool) (s r : Nat) (tm : Bool) : Own (w.setChan c cap buf cl s r tm) B T sz enc v l := by
  refine ⟨h.1, ?_⟩
  rcases h.2 with hn | ⟨g, cp, cur, rfl, hB, hgg, rest⟩
  · exact .inl hn
  · refine .inr ⟨g, cp, cur, rfl, hB, (heap_chan_ne ?_ ..).trans hgg, rest⟩
    intro e
    subst e
    unfold Ob at hc
    rw [hgg] at hc
    cases hc
theorem Sl.oneAt {α : Type} {enc : α → List Value} {sz : Nat} (w : World) (x : α) (T : TypeId) (cs : Array Value) (hcs : cs.toList = enc x) {g : Nat} (hg : w.heap.size = g) : Sl (w.alloc (.cells cs T)) sz enc (some ⟨g, 0, none⟩) 1 [x] := hg ▸ Sl.one w x T cs hcs
structure RunW (l : Lev) (A : Option Addr) (c : Nat) (A' : Option Addr) (c' : Nat) (cb sb n k : Nat) (buf : Array Value) (v : St) (w W : World) : Prop where
  L : Bk W w.heap.size 29 #[.int .i64 l.id, .int .i64 l.ticks, .int .i64 l.start.x, .int .i64 l.start.y, .slice A l.walls.length c, .slice A' l.gates.length c', .int .i64 l.fin.lo.x, .int .i64 l.fin.lo.y, .int .i64 l.fin.hi.x, .int .i64 l.fin.hi.y, .int .i64 l.bans]
  C : Ob W cb (.chan (n + 1) buf false k 0 false)
  S : Bk W sb 31 #[.int .i64 v.t, .int .i64 v.p.x, .int .i64 v.p.y, .int .i64 v.f.x, .int .i64 v.f.y, .int .i64 v.d, .int .i64 v.g, .bool v.dn, .bool v.ov]
  B : Below w.heap.size w W
set_option maxRecDepth 100000 in
set_option maxHeartbeats 4000000 in
set_option linter.unusedSimpArgs false in
theorem implStates_yes (l : Lev) (ins : List Inp) (A A' A2 : Option Addr) (c c' c2 : Nat) (w : World) (h : Sl w 4 encBx A l.walls.length l.walls) (hg : Sl w 4 encBx A' l.gates.length l.gates) (e : A = none → c = 0) (e' : A' = none → c' = 0) (hs : Sl w 3 encInp A2 ins.length ins) (hr : runOk l ins = true) :
    Calls Try.prog 93 #[.agg #[.int .i64 l.id, .int .i64 l.ticks, .int .i64 l.start.x, .int .i64 l.start.y, .slice A l.walls.length c, .slice A' l.gates.length c', .int .i64 l.fin.lo.x, .int .i64 l.fin.lo.y, .int .i64 l.fin.hi.x, .int .i64 l.fin.hi.y, .int .i64 l.bans], .slice A2 ins.length c2] w fun e w' => ∃ A4 c4, e = .returned (.tuple #[.slice A4 (ins.length + 1) c4, .bool true]) ∧ Own w' w.heap.size 31 9 encSt (.slice A4 (ins.length + 1) c4) (statesTo l ins (ins.length + 1)) ∧ Below w.heap.size w w' := by
  obtain ⟨hl, hlg⟩ := runOk_iff.1 hr
  obtain ⟨_, h60, _, hv, hvs⟩ := runOk_bd hr
  obtain ⟨_, _, hst, hwl, _, hgl, _, _, _, _⟩ := levOk_iff.1 hl
  have hlg' : ¬ (0 ≤ legal l ins) := by omega
  obtain ⟨i0, hi, hz0, hz1, hz2⟩ := info_parts (show (Try.prog.info? 31).map (fun i => (i.zero, i.size, i.bytes)) = some (some (.agg #[.int .i64 0, .int .i64 0, .int .i64 0, .int .i64 0, .int .i64 0, .int .i64 0, .int .i64 0, .bool false, .bool false]), 9, 64) by kernel_rfl)
  have hmk : ∀ W : World, (Instr.makeChan 141 (.int .i64 ((ins.length : Int) + 1))).run Try.prog W = .ok (.chan (some W.heap.size)) (W.alloc (.chan (ins.length + 1) #[] false 0 0 false)) := fun W => by
    have := run_makeChan (P := Try.prog) (w := W) Try.underlying141 hi .i64 (ins.length + 1) (by omega) (by rw [hz2]; omega)
    simpa using this
  go_enter Try.func93, Try.ntmps93
  go_wp2_with fail
  refine (implLevelValid_any l A A' c c' _ (h.below (by (repeat (first | (with_reducible assumption) | (with_reducible exact Below.refl _ _) | (with_reducible refine below_alloc ?_ _) | (with_reducible refine below_setCell ?_ ?_ _; (simp <;> omega)) | (with_reducible refine below_drew ?_) | (with_reducible refine below_drewN ?_ _) | (with_reducible refine below_after ?_ (by assumption)))))) (hg.below (by (repeat (first | (with_reducible assumption) | (with_reducible exact Below.refl _ _) | (with_reducible refine below_alloc ?_ _) | (with_reducible refine below_setCell ?_ ?_ _; (simp <;> omega)) | (with_reducible refine below_drew ?_) | (with_reducible refine below_drewN ?_ _) | (with_reducible refine below_after ?_ (by assumption)))))) e e' (by omega) (by omega)).mono ?_
  rw [hl]
  rintro e w1 ⟨rfl, hb1⟩
  have L1 : Bk w1 w.heap.size 29 #[.int .i64 l.id, .int .i64 l.ticks, .int .i64 l.start.x, .int .i64 l.start.y, .slice A l.walls.length c, .slice A' l.gates.length c', .int .i64 l.fin.lo.x, .int .i64 l.fin.lo.y, .int .i64 l.fin.hi.x, .int .i64 l.fin.hi.y, .int .i64 l.bans] := Bk.later (by (repeat (first | (with_reducible assumption) | (with_reducible exact Bk.new _ _ _ (by simp; done)) | (with_reducible refine Bk.alloc ?_ _) | (with_reducible refine Bk.drew ?_) | (with_reducible refine Bk.drewN ?_ _) | (with_reducible apply Bk.set') | (with_reducible refine Bk.far ?_ (by first | omega | (simp; done) | (simp; omega)) _) | (with_reducible refine Bk.later ?_ (by assumption)) | (with_reducible refine Bk.grown ?_ (by assumption) (by first | omega | (simp; done) | (simp; omega))) | (exact SetTo.mk (by with_reducible rfl)) | (exact SetTo.mk (by simp))))) hb1
  have B1 : Below w.heap.size w w1 := by (repeat (first | (with_reducible assumption) | (with_reducible exact Below.refl _ _) | (with_reducible refine below_alloc ?_ _) | (with_reducible refine below_setCell ?_ ?_ _; (simp <;> omega)) | (with_reducible refine below_drew ?_) | (with_reducible refine below_drewN ?_ _) | (with_reducible refine below_after ?_ (by assumption))))
  clear hb1
  obtain ⟨⟨l0, l1, l2, l3, l4, l5, l6, l7, l8, l9, l10⟩, lf⟩ := L1.c11
  go_wp2_with fail
  refine (implLegal_any l ins A A' A2 c c' c2 _ (h.below (by (repeat (first | (with_reducible assumption) | (with_reducible exact Below.refl _ _) | (with_reducible refine below_alloc ?_ _) | (with_reducible refine below_setCell ?_ ?_ _; (simp <;> omega)) | (with_reducible refine below_drew ?_) | (with_reducible refine below_drewN ?_ _) | (with_reducible refine below_after ?_ (by assumption)))))) (hg.below (by (repeat (first | (with_reducible assumption) | (with_reducible exact Below.refl _ _) | (with_reducible refine below_alloc ?_ _) | (with_reducible refine below_setCell ?_ ?_ _; (simp <;> omega)) | (with_reducible refine below_drew ?_) | (with_reducible refine below_drewN ?_ _) | (with_reducible refine below_after ?_ (by assumption)))))) e e' (by omega) (by omega) hl (hs.below (by (repeat (first | (with_reducible assumption) | (with_reducible exact Below.refl _ _) | (with_reducible refine below_alloc ?_ _) | (with_reducible refine below_setCell ?_ ?_ _; (simp <;> omega)) | (with_reducible refine below_drew ?_) | (with_reducible refine below_drewN ?_ _) | (with_reducible refine below_after ?_ (by assumption)))))) (by omega)).mono ?_
  rintro e w2 ⟨rfl, hb2⟩
  have L2 : Bk w2 w.heap.size 29 #[.int .i64 l.id, .int .i64 l.ticks, .int .i64 l.start.x, .int .i64 l.start.y, .slice A l.walls.length c, .slice A' l.gates.length c', .int .i64 l.fin.lo.x, .int .i64 l.fin.lo.y, .int .i64 l.fin.hi.x, .int .i64 l.fin.hi.y, .int .i64 l.bans] := Bk.later (by (repeat (first | (with_reducible assumption) | (with_reducible exact Bk.new _ _ _ (by simp; done)) | (with_reducible refine Bk.alloc ?_ _) | (with_reducible refine Bk.drew ?_) | (with_reducible refine Bk.drewN ?_ _) | (with_reducible apply Bk.set') | (with_reducible refine Bk.far ?_ (by first | omega | (simp; done) | (simp; omega)) _) | (with_reducible refine Bk.later ?_ (by assumption)) | (with_reducible refine Bk.grown ?_ (by assumption) (by first | omega | (simp; done) | (simp; omega))) | (exact SetTo.mk (by with_reducible rfl)) | (exact SetTo.mk (by simp))))) hb2
  have B2 : Below w.heap.size w w2 := by (repeat (first | (with_reducible assumption) | (with_reducible exact Below.refl _ _) | (with_reducible refine below_alloc ?_ _) | (with_reducible refine below_setCell ?_ ?_ _; (simp <;> omega)) | (with_reducible refine below_drew ?_) | (with_reducible refine below_drewN ?_ _) | (with_reducible refine below_after ?_ (by assumption))))
  clear hb2 l0 l1 l2 l3 l4 l5 l6 l7 l8 l9 l10 lf L1 B1
  obtain ⟨⟨l0, l1, l2, l3, l4, l5, l6, l7, l8, l9, l10⟩, lf⟩ := L2.c11
  have zL := L2.lt
  go_wp2_with fail
  refine (implEngineStart_any l A A' c c' _ (h.below (by (repeat (first | (with_reducible assumption) | (with_reducible exact Below.refl _ _) | (with_reducible refine below_alloc ?_ _) | (with_reducible refine below_setCell ?_ ?_ _; (simp <;> omega)) | (with_reducible refine below_drew ?_) | (with_reducible refine below_drewN ?_ _) | (with_reducible refine below_after ?_ (by assumption)))))) (hg.below (by (repeat (first | (with_reducible assumption) | (with_reducible exact Below.refl _ _) | (with_reducible refine below_alloc ?_ _) | (with_reducible refine below_setCell ?_ ?_ _; (simp <;> omega)) | (with_reducible refine below_drew ?_) | (with_reducible refine below_drewN ?_ _) | (with_reducible refine below_after ?_ (by assumption)))))) e e' (by omega) (by omega) hl).mono ?_
  rintro e w3 ⟨rfl, hb3⟩
  have L3 : Bk w3 w.heap.size 29 #[.int .i64 l.id, .int .i64 l.ticks, .int .i64 l.start.x, .int .i64 l.start.y, .slice A l.walls.length c, .slice A' l.gates.length c', .int .i64 l.fin.lo.x, .int .i64 l.fin.lo.y, .int .i64 l.fin.hi.x, .int .i64 l.fin.hi.y, .int .i64 l.bans] := Bk.later (by (repeat (first | (with_reducible assumption) | (with_reducible exact Bk.new _ _ _ (by simp; done)) | (with_reducible refine Bk.alloc ?_ _) | (with_reducible refine Bk.drew ?_) | (with_reducible refine Bk.drewN ?_ _) | (with_reducible apply Bk.set') | (with_reducible refine Bk.far ?_ (by first | omega | (simp; done) | (simp; omega)) _) | (with_reducible refine Bk.later ?_ (by assumption)) | (with_reducible refine Bk.grown ?_ (by assumption) (by first | omega | (simp; done) | (simp; omega))) | (exact SetTo.mk (by with_reducible rfl)) | (exact SetTo.mk (by simp))))) hb3
  have C3 : Ob w3 w2.heap.size (.chan (ins.length + 1) #[] false 0 0 false) := Ob.later (show Ob (w2.alloc _) w2.heap.size _ from heap_alloc_new w2 _) hb3
  have B3 : Below w.heap.size w w3 := by (repeat (first | (with_reducible assumption) | (with_reducible exact Below.refl _ _) | (with_reducible refine below_alloc ?_ _) | (with_reducible refine below_setCell ?_ ?_ _; (simp <;> omega)) | (with_reducible refine below_drew ?_) | (with_reducible refine below_drewN ?_ _) | (with_reducible refine below_after ?_ (by assumption))))
  clear hb3 l0 l1 l2 l3 l4 l5 l6 l7 l8 l9 l10 lf
  go_upto_region 5 with fail
  refine wp_world (fun W => RunW l A c A' c' w2.heap.size w3.heap.size ins.length 0 #[] (st0 l) w W) ⟨by (repeat (first | (with_reducible assumption) | (with_reducible exact Bk.new _ _ _ (by simp; done)) | (with_reducible refine Bk.alloc ?_ _) | (with_reducible refine Bk.drew ?_) | (with_reducible refine Bk.drewN ?_ _) | (with_reducible apply Bk.set') | (with_reducible refine Bk.far ?_ (by first | omega | (simp; done) | (simp; omega)) _) | (with_reducible refine Bk.later ?_ (by assumption)) | (with_reducible refine Bk.grown ?_ (by assumption) (by first | omega | (simp; done) | (simp; omega))) | (exact SetTo.mk (by with_reducible rfl)) | (exact SetTo.mk (by simp)))), C3.alloc _, Bk.new _ _ _ rfl, by (repeat (first | (with_reducible assumption) | (with_reducible exact Below.refl _ _) | (with_reducible refine below_alloc ?_ _) | (with_reducible refine below_setCell ?_ ?_ _; (simp <;> omega)) | (with_reducible refine below_drew ?_) | (with_reducible refine below_drewN ?_ _) | (with_reducible refine below_after ?_ (by assumption))))⟩ ?_
  rintro W ⟨L4, C4, S4, B4⟩
  have zc := B2.size
  have z23 : w2.heap.size < w3.heap.size := C3.lt
  clear L2 L3 C3 B2 B3
  generalize w2.heap.size = cb at *
  generalize w3.heap.size = sb at *
  have zS := S4.lt
  obtain ⟨⟨s0, s1, s2, s3, s4, s5, s6, s7, s8⟩, sf⟩ := S4.c9
  refine wp_region_ar ?_
  show Ar _ _ _ [0, 1, 2] _ _
  refine Ar.value (v := .chan (some cb)) (w' := W) rfl rfl (by simp [execOp, go_sem]) ?_
  simp only [List.getElem_toArray, List.getElem_cons_zero, List.getElem_cons_succ, Act.put, List.setIfInBounds_toArray, List.set_cons_zero, List.set_cons_succ]
  refine Ar.value (v := aggSt (st0 l)) (w' := W) rfl rfl (by simp [execOp, go_sem, aggSt, *]) ?_
  simp only [List.getElem_toArray, List.getElem_cons_zero, List.getElem_cons_succ, Act.put, List.setIfInBounds_toArray, List.set_cons_zero, List.set_cons_succ]
  refine Ar.send (c := cb) (v := aggSt (st0 l)) (z := .tuple #[]) rfl rfl (by simp [execOp, go_sem, scase]) C4 (by simp) ?_
  simp only [List.getElem_toArray, List.getElem_cons_zero, List.getElem_cons_succ, Act.put, List.setIfInBounds_toArray, List.set_cons_zero, List.set_cons_succ]
  refine Ar.nil ?_
  refine ex_world (fun W => RunW l A c A' c' cb sb ins.length 1 #[aggSt (st0 l)] (st0 l) w W) ⟨L4.chan (by omega) .., C4.chan .., S4.chan (by omega) .., below_setChan B4 (by omega) ..⟩ ?_
  rintro W5 ⟨L5, C5, S5, B5⟩
  clear L4 C4 S4 B4 s0 s1 s2 s3 s4 s5 s6 s7 s8 sf zS
  have z5 := S5.lt
  go_wp2
  go_loopw [35] (fun i wr => ∃ k : Nat, k ≤ ins.length ∧ i = .int .i64 k ∧ RunW l A c A' c' cb sb ins.length (k + 1) ((statesTo l ins (k + 1)).map aggSt).toArray (runTo l ins k) w wr) (fun i _ => ins.length - (intOf i).toNat)
  case atStart => exact ⟨0, Nat.zero_le _, rfl, L5, C5, S5, B5⟩
  case round =>
    obtain ⟨k, hk, rfl, L6, C6, S6, B6⟩ := hrel
    by_cases hlt : k < ins.length
    · obtain ⟨b, off, x, rfl, hbl, hx, hc⟩ := (hs.below B6).at_ hlt
      have q0 : W.heap.size = W.heap.size := rfl
      have r0 : wr.cell? ⟨b, off + k * 3, none⟩ = some (.int .i64 x.s) := hc 0 _ rfl
      have r1 : wr.cell? ⟨b, off + k * 3 + 1, none⟩ = some (.int .i64 x.p) := hc 1 _ rfl
      have r2 : wr.cell? ⟨b, off + k * 3 + 2, none⟩ = some (.bool x.z) := hc 2 _ rfl
      obtain ⟨x0, x1⟩ := hvs x (List.mem_of_getElem? hx)
      have HST : Hid (stepS l (runTo l ins k) x = runTo l ins (k + 1)) := Lib.hid (runTo_succ hx).symm
      have HOK : Hid (sOk l (runTo l ins k)) := Lib.hid (runTo_ok ins k hst)
      obtain ⟨t0, t1⟩ := runTo_t l ins k hk
      have t2 : (runTo l ins k).t ≤ 1000 := by omega
      have HBS : Hid (((statesTo l ins (k + 1)).map aggSt).toArray.push (aggSt (runTo l ins (k + 1))) = ((statesTo l ins (k + 1 + 1)).map aggSt).toArray) := Lib.hid (buf_succ l ins k)
      have hsz : ((statesTo l ins (k + 1)).map aggSt).toArray.size < ins.length + 1 := by rw [buf_size]; omega
      clear hx hc t1 q0
      generalize runTo l ins k = v at *
      generalize hv' : runTo l ins (k + 1) = v' at *
      have HV := Lib.hid hv'
      clear hv'
      generalize ((statesTo l ins (k + 1)).map aggSt).toArray = bf at *
      have zL := L6.lt; have zS := S6.lt; have zC := C6.lt
      obtain ⟨⟨l0, l1, l2, l3, l4, l5, l6, l7, l8, l9, l10⟩, lf⟩ := L6.c11; obtain ⟨⟨s0, s1, s2, s3, s4, s5, s6, s7, s8⟩, sf⟩ := S6.c9
      go_wp2_with fail
      refine (after_f l v v' x A A' c c' _ (h.below (by (repeat (first | (with_reducible assumption) | (with_reducible exact Below.refl _ _) | (with_reducible refine below_alloc ?_ _) | (with_reducible refine below_setCell ?_ ?_ _; (simp <;> omega)) | (with_reducible refine below_drew ?_) | (with_reducible refine below_drewN ?_ _) | (with_reducible refine below_after ?_ (by assumption)))))) (hg.below (by (repeat (first | (with_reducible assumption) | (with_reducible exact Below.refl _ _) | (with_reducible refine below_alloc ?_ _) | (with_reducible refine below_setCell ?_ ?_ _; (simp <;> omega)) | (with_reducible refine below_drew ?_) | (with_reducible refine below_drewN ?_ _) | (with_reducible refine below_after ?_ (by assumption)))))) (by omega) hl HOK.out x0 x1 t0 t2 HST.out).mono ?_
      rintro e w7 ⟨rfl, hb7⟩
      have L7 : Bk w7 w.heap.size 29 #[.int .i64 l.id, .int .i64 l.ticks, .int .i64 l.start.x, .int .i64 l.start.y, .slice A l.walls.length c, .slice A' l.gates.length c', .int .i64 l.fin.lo.x, .int .i64 l.fin.lo.y, .int .i64 l.fin.hi.x, .int .i64 l.fin.hi.y, .int .i64 l.bans] := Bk.later (by (repeat (first | (with_reducible assumption) | (with_reducible exact Bk.new _ _ _ (by simp; done)) | (with_reducible refine Bk.alloc ?_ _) | (with_reducible refine Bk.drew ?_) | (with_reducible refine Bk.drewN ?_ _) | (with_reducible apply Bk.set') | (with_reducible refine Bk.far ?_ (by first | omega | (simp; done) | (simp; omega)) _) | (with_reducible refine Bk.later ?_ (by assumption)) | (with_reducible refine Bk.grown ?_ (by assumption) (by first | omega | (simp; done) | (simp; omega))) | (exact SetTo.mk (by with_reducible rfl)) | (exact SetTo.mk (by simp))))) hb7
      have S7 : Bk w7 sb 31 #[.int .i64 v.t, .int .i64 v.p.x, .int .i64 v.p.y, .int .i64 v.f.x, .int .i64 v.f.y, .int .i64 v.d, .int .i64 v.g, .bool v.dn, .bool v.ov] := Bk.later (by (repeat (first | (with_reducible assumption) | (with_reducible exact Bk.new _ _ _ (by simp; done)) | (with_reducible refine Bk.alloc ?_ _) | (with_reducible refine Bk.drew ?_) | (with_reducible refine Bk.drewN ?_ _) | (with_reducible apply Bk.set') | (with_reducible refine Bk.far ?_ (by first | omega | (simp; done) | (simp; omega)) _) | (with_reducible refine Bk.later ?_ (by assumption)) | (with_reducible refine Bk.grown ?_ (by assumption) (by first | omega | (simp; done) | (simp; omega))) | (exact SetTo.mk (by with_reducible rfl)) | (exact SetTo.mk (by simp))))) hb7
      have C7 : Ob w7 cb (.chan (ins.length + 1) bf false (k + 1) 0 false) := Ob.later (C6.alloc _) hb7
      have B7 : Below w.heap.size w w7 := by (repeat (first | (with_reducible assumption) | (with_reducible exact Below.refl _ _) | (with_reducible refine below_alloc ?_ _) | (with_reducible refine below_setCell ?_ ?_ _; (simp <;> omega)) | (with_reducible refine below_drew ?_) | (with_reducible refine below_drewN ?_ _) | (with_reducible refine below_after ?_ (by assumption))))
      clear hb7 l0 l1 l2 l3 l4 l5 l6 l7 l8 l9 l10 lf s0 s1 s2 s3 s4 s5 s6 s7 s8 sf L6 S6 C6 B6 r0 r1 r2
      have yS := S7.lt
      obtain ⟨⟨s0, s1, s2, s3, s4, s5, s6, s7, s8⟩, sf⟩ := S7.c9
      go_upto_region 10 with fail
      refine wp_world (fun W => RunW l A c A' c' cb sb ins.length (k + 1) bf v' w W) ⟨by (repeat (first | (with_reducible assumption) | (with_reducible exact Bk.new _ _ _ (by simp; done)) | (with_reducible refine Bk.alloc ?_ _) | (with_reducible refine Bk.drew ?_) | (with_reducible refine Bk.drewN ?_ _) | (with_reducible apply Bk.set') | (with_reducible refine Bk.far ?_ (by first | omega | (simp; done) | (simp; omega)) _) | (with_reducible refine Bk.later ?_ (by assumption)) | (with_reducible refine Bk.grown ?_ (by assumption) (by first | omega | (simp; done) | (simp; omega))) | (exact SetTo.mk (by with_reducible rfl)) | (exact SetTo.mk (by simp)))), by (repeat (first | (with_reducible assumption) | (refine Ob.far ?_ (by first | omega | (simp; done) | (simp; omega)) _) | (refine Ob.alloc ?_ _))), by (repeat (first | (with_reducible assumption) | (with_reducible exact Bk.new _ _ _ (by simp; done)) | (with_reducible refine Bk.alloc ?_ _) | (with_reducible refine Bk.drew ?_) | (with_reducible refine Bk.drewN ?_ _) | (with_reducible apply Bk.set') | (with_reducible refine Bk.far ?_ (by first | omega | (simp; done) | (simp; omega)) _) | (with_reducible refine Bk.later ?_ (by assumption)) | (with_reducible refine Bk.grown ?_ (by assumption) (by first | omega | (simp; done) | (simp; omega))) | (exact SetTo.mk (by with_reducible rfl)) | (exact SetTo.mk (by simp)))), by (repeat (first | (with_reducible assumption) | (with_reducible exact Below.refl _ _) | (with_reducible refine below_alloc ?_ _) | (with_reducible refine below_setCell ?_ ?_ _; (simp <;> omega)) | (with_reducible refine below_drew ?_) | (with_reducible refine below_drewN ?_ _) | (with_reducible refine below_after ?_ (by assumption))))⟩ ?_
      rintro W8 ⟨L8, C8, S8, B8⟩
      clear s0 s1 s2 s3 s4 s5 s6 s7 s8 sf L7 S7 C7 B7 yS
      have yS := S8.lt
      obtain ⟨⟨s0, s1, s2, s3, s4, s5, s6, s7, s8⟩, sf⟩ := S8.c9
      refine wp_region_ar ?_
      show Ar _ _ _ [0, 1, 2] _ _
      refine Ar.value (v := .chan (some cb)) (w' := W8) rfl rfl (by simp [execOp, go_sem]) ?_
      simp only [List.getElem_toArray, List.getElem_cons_zero, List.getElem_cons_succ, Act.put, List.setIfInBounds_toArray, List.set_cons_zero, List.set_cons_succ]
      refine Ar.value (v := aggSt v') (w' := W8) rfl rfl (by simp [execOp, go_sem, aggSt, *]) ?_
      simp only [List.getElem_toArray, List.getElem_cons_zero, List.getElem_cons_succ, Act.put, List.setIfInBounds_toArray, List.set_cons_zero, List.set_cons_succ]
      refine Ar.send (c := cb) (v := aggSt v') (z := .tuple #[]) rfl rfl (by simp [execOp, go_sem, scase]) C8 hsz ?_
      simp only [List.getElem_toArray, List.getElem_cons_zero, List.getElem_cons_succ, Act.put, List.setIfInBounds_toArray, List.set_cons_zero, List.set_cons_succ]
      refine Ar.nil ?_
      rw [HBS.out]
      refine ex_world (fun W => RunW l A c A' c' cb sb ins.length (k + 1 + 1) ((statesTo l ins (k + 1 + 1)).map aggSt).toArray v' w W) ⟨L8.chan (by omega) .., C8.chan .., S8.chan (by omega) .., below_setChan B8 (by omega) ..⟩ ?_
      rintro W9 ⟨L9, C9, S9, B9⟩
      clear L8 C8 S8 B8 s0 s1 s2 s3 s4 s5 s6 s7 s8 sf yS
      go_wp2
      go_roundw
      case rel => exact ⟨k + 1, by omega, by go_num, L9, C9, by rw [HV.out]; exact S9, B9⟩
      case measure => simp [intOf]; omega
    · have hkn : k = ins.length := by omega
      subst hkn
      clear hlt hk
      generalize runTo l ins ins.length = v at *
      go_upto_region 12 with fail
      refine wp_region_ar ?_
      show Ar _ _ _ [0, 1] _ _
      refine Ar.value (v := .chan (some cb)) (w' := wr) rfl rfl (by simp [execOp, go_sem]) ?_
      simp only [List.getElem_toArray, List.getElem_cons_zero, List.getElem_cons_succ, Act.put, List.setIfInBounds_toArray, List.set_cons_zero, List.set_cons_succ]
      have hcl := run_close_open (P := Try.prog) #[141] 0 (show wr.heap[cb]? = some _ from C6)
      refine Ar.value (v := .tuple #[]) (w' := wr.setChan cb (ins.length + 1) ((statesTo l ins (ins.length + 1)).map aggSt).toArray true (ins.length + 1) 0 false) rfl rfl (by simp [execOp, go_sem, resolve, invoke, builtin, hcl, World.setChan]) ?_
      simp only [List.getElem_toArray, List.getElem_cons_zero, List.getElem_cons_succ, Act.put, List.setIfInBounds_toArray, List.set_cons_zero, List.set_cons_succ]
      refine Ar.nil ?_
      refine ex_world (fun W => Ob W cb (.chan (ins.length + 1) (restB l ins 0) true (ins.length + 1) 0 false) ∧ Below w.heap.size w W) ⟨C6.chan .., below_setChan B6 (by omega) ..⟩ ?_
      rintro W10 ⟨C10, B10⟩
      clear hcl L6 C6 S6 B6
      go_wp2
      go_loopw [11] (fun out wr => ∃ k : Nat, k ≤ ins.length + 1 ∧ Own wr w.heap.size 31 9 encSt out (statesTo l ins k) ∧ Ob wr cb (.chan (ins.length + 1) (restB l ins k) true (ins.length + 1) k false) ∧ Below w.heap.size w wr) (fun out _ => ins.length + 1 - slLen out)
      case atStart => exact ⟨0, Nat.zero_le _, Own.none_, C10, B10⟩
      case round =>
        obtain ⟨k, hk, O11, C11, B11⟩ := hrel
        obtain ⟨A11, c11, hf11, hc11, _⟩ := O11.form
        rw [statesTo_len] at hf11 hc11
        subst hf11
        by_cases hlt : k < ins.length + 1
        · have hszk : 0 < (restB l ins k).size := by rw [restB_size]; omega
          go_upto_region 15 with fail
          refine wp_region_ar ?_
          show Ar _ _ _ [0, 1] _ _
          refine Ar.recv (c := cb) (ok := true) (z := .agg #[.int .i64 0, .int .i64 0, .int .i64 0, .int .i64 0, .int .i64 0, .int .i64 0, .int .i64 0, .bool false, .bool false]) rfl rfl (by simp [execOp, go_sem, rcase]; trace_state) C11 hszk ?_
          rw [restB_head l ins hlt, restB_tail l ins hlt]
          simp only [got, if_true]
          simp only [List.getElem_toArray, List.getElem_cons_zero, List.getElem_cons_succ, Act.put, List.setIfInBounds_toArray, List.set_cons_zero, List.set_cons_succ]
          refine Ar.value (v := .bool true) (w' := wr.setChan cb (ins.length + 1) (restB l ins (k + 1)) true (ins.length + 1) (k + 1) false) rfl rfl (by simp [execOp, go_sem, aggSt]) ?_
          simp only [List.getElem_toArray, List.getElem_cons_zero, List.getElem_cons_succ, Act.put, List.setIfInBounds_toArray, List.set_cons_zero, List.set_cons_succ]
          refine Ar.nil ?_
          refine ex_world (fun W => Own W w.heap.size 31 9 encSt (.slice A11 k c11) (statesTo l ins k) ∧ Ob W cb (.chan (ins.length + 1) (restB l ins (k + 1)) true (ins.length + 1) (k + 1) false) ∧ Below w.heap.size w W) ⟨O11.chan C11 .., C11.chan .., below_setChan B11 (by omega) ..⟩ ?_
          rintro W12 ⟨O12, C12, B12⟩
          clear O11 C11 B11 hszk
          have HSU : Hid (statesTo l ins k ++ [runTo l ins k] = statesTo l ins (k + 1)) := Lib.hid (statesTo_succ l ins k).symm
          have hsl : (statesTo l ins k).length = k := statesTo_len l ins k
          have hlo := fun g e => (O12.lt g e).1
          simp only [aggSt]
          generalize runTo l ins k = v at *
          generalize statesTo l ins k = xs at *
          have zC := C12.lt
          have zB := B12.size
          go_wp2_with (at_builtin; refine wp_appS rfl _ _ 107 rfl w.heap.size 31 i0 (.agg #[.int .i64 0, .int .i64 0, .int .i64 0, .int .i64 0, .int .i64 0, .int .i64 0, .int .i64 0, .bool false, .bool false]) 9 64 Try.underlying107 hi hz0 hz1 hz2 rfl (by decide) encSt_len one_st _ xs [v] rfl ((O12.alloc _).alloc _) _ 1 1 rfl (Sl.oneAt _ _ _ _ (by rfl) (by first | rfl | simp)) (by intro e; cases e) (by unfold maxLen; omega) (by omega) (by simp; omega) ?_; intro v2 w14 O14 g14)
          have B14 : Below w.heap.size w w14 := (below_alloc (below_alloc B12 _) _).grown g14 (by simp; omega) hlo
          rw [HSU.out] at O14
          have C14 : Ob w14 cb (.chan (ins.length + 1) (restB l ins (k + 1)) true (ins.length + 1) (k + 1) false) := ((C12.alloc _).alloc _).grown g14 (by
            intro e
            obtain ⟨_, h0 | ⟨g, cp, cur, e2, _, hgg, _⟩⟩ := O12
            · obtain ⟨h0, _⟩ := h0
              injection h0 with h0 _ _
              rw [h0] at e
              cases e
            · injection e2 with e2 _ _
              rw [e2] at e
              injection e with e
              unfold Ob at C12
              rw [e] at C12
              rw [hgg] at C12
              cases C12)
          obtain ⟨A14, c14, hf14, hc14, _⟩ := O14.form
          rw [statesTo_len] at hf14
          subst hf14
          go_roundw
          case rel => exact ⟨_, _, _, _, _, _, _, _, _, ⟨k + 1, by omega, O14, C14, B14⟩, rfl⟩
          case measure => simp [slLen]; omega
        · have hkn : k = ins.length + 1 := by omega
          subst hkn
          have hrb : restB l ins (ins.length + 1) = #[] := Array.eq_empty_of_size_eq_zero (by rw [restB_size]; omega)
          rw [hrb] at C11
          go_upto_region 15 with fail
          refine wp_region_ar ?_
          show Ar _ _ _ [0, 1] _ _
          refine Ar.shut (c := cb) (ok := true) (z := .agg #[.int .i64 0, .int .i64 0, .int .i64 0, .int .i64 0, .int .i64 0, .int .i64 0, .int .i64 0, .bool false, .bool false]) rfl rfl (by simp [execOp, go_sem, rcase]) C11 ?_
          simp only [got, if_true]
          simp only [List.getElem_toArray, List.getElem_cons_zero, List.getElem_cons_succ, Act.put, List.setIfInBounds_toArray, List.set_cons_zero, List.set_cons_succ]
          refine Ar.value (v := .bool false) (w' := wr) rfl rfl (by simp [execOp, go_sem]) ?_
          simp only [List.getElem_toArray, List.getElem_cons_zero, List.getElem_cons_succ, Act.put, List.setIfInBounds_toArray, List.set_cons_zero, List.set_cons_succ]
          refine Ar.nil ?_
          go_wp2
          refine bodyPost_ret (v := .tuple #[.slice A11 (ins.length + 1) c11, .bool true]) (by simp [results, Try.results93, go_sem]) rfl ⟨A11, c11, rfl, O11, B11⟩
end Go.Proofs.Ytmfhfebakdkkdaa
