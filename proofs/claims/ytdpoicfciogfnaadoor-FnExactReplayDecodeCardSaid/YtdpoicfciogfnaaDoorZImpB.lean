/- Lemmas: ImpJ ImpK ImpL Chan ImpM ImpN ImpO DrK ImpP ImpQ. -/
import Derived.Test.YtdpoicfciogfnaaDoorZImpC
import Derived.Test.YtdpoicfciogfnaaDoorZSpec
import Derived.Maps.Own
import Derived.Maps.OwnOps
import Derived.StringKeys
import Derived.Test.YtdpoicfciogfnaaDoorZBase
import Derived.Conc.LoneCalls
import Derived.Test.YtdpoicfciogfnaaDoorZRun
import Derived.Test.YtdpoicfciogfnaaDoorZRepl
import Derived.Test.YtdpoicfciogfnaaDoorZHead
import Derived.Deep.DeepMust
import Derived.Deep.RegionHeld3
/- What is forbidden in a level: a map. (Round B) -/
namespace Go.Proofs.YtdpoicfciogfnaaDoor
open Go.ChangeShapes Go.WideShapes Go.ChangeAt Go.RowKit Go.Maps
section
variable {P : Program} {k : TypeId} {R : Value → Option (DataW Unit × List MemPlace)} {b n : Nat} {D : DataW Unit} {w w' : World}
theorem ownM_made (w : World) (b : Nat) (hb : w.heap.size = b) : (w.alloc (.map #[] 0)).ownsMap P k R b 0 (.map []) := by subst hb; exact World.ownsMap_made _ _ _ _
theorem ownM_made' (w : World) : (w.alloc (.map #[] 0)).ownsMap P k R w.heap.size 0 (.map []) := World.ownsMap_made _ _ _ _
theorem ownM_madeD (w : World) : (w.drew.alloc (.map #[] 0)).ownsMap P k R w.heap.size 0 (.map []) := World.ownsMap_made w.drew _ _ _
theorem ownM_later (h : w.ownsMap P k R b n D) (hb : Below w.heap.size w w') : w'.ownsMap P k R b n D := by
  obtain ⟨es, clock, h1, h2⟩ := h
  exact ⟨es, clock, (hb.block b (Array.getElem?_eq_some_iff.1 h1).1).trans h1, h2⟩
theorem ownM_alloc (h : w.ownsMap P k R b n D) (o : Obj) : (w.alloc o).ownsMap P k R b n D := ownM_later h (below_alloc (Below.refl _ _) o)
theorem ownM_drew (h : w.ownsMap P k R b n D) : w.drew.ownsMap P k R b n D := h
theorem upon_ins {o : Oper} {a : Act} {K : Act → World → Prop} {Q : Exit → Act → World → Prop} {t e : TypeId} (hK : Keyed P k) (ht : P.underlying t = some (.map k e)) (he : P.underlying e = some .bool)
    (hown : w.ownsMap P k (plainElem P e) b n D) (hn : n < maxLen) {key : Value} {y : Bool} {kl : Lit} (hkey : keyOf P k key = some kl)
    (h : ∀ w', w'.ownsMap P k (plainElem P e) b (n + 1) (D.put kl (.lit (.bool y))) → w.grownBy w' (some b) → K (a.put o.dst undef) w') :
    Oper.upon P o a K Q (((Instr.mapUpdate t (.map (some b)) key (.bool y)).run P w).andThen fun _ w' => .ok .skip w') := by
  obtain ⟨w', hrun, r1, r2⟩ := hown.update hK ht hn hkey (plainElem_bool he y)
  rw [hrun]
  exact h w' r1 r2
end
theorem below_ins {W w w' : World} {b : Nat} (h : Below W.heap.size W w) (hg : w.grownBy w' (some b)) (hb : W.heap.size ≤ b) : Below W.heap.size W w' := h.grown hg h.size (fun k e => by cases e; exact hb)
def kBrake : Lit := .string [98, 114, 97, 107, 101]
def kPause : Lit := .string [112, 97, 117, 115, 101]
theorem strKey : Keyed Tryd.prog 9 := string_keyed Tryd.underlying9
theorem keyBrake : keyOf Tryd.prog 9 (.string ⟨#[98, 114, 97, 107, 101]⟩) = some kBrake := WideMaps.keyOf_string_mk Tryd.underlying9 (by decide)
theorem keyPause : keyOf Tryd.prog 9 (.string ⟨#[112, 97, 117, 115, 101]⟩) = some kPause := WideMaps.keyOf_string_mk Tryd.underlying9 (by decide)
theorem keepL {W w' : World} {g : Nat} {t : TypeId} {v0 v1 v2 v3 v4 v5 v6 v7 v8 v9 v10 : Value} (h : Bk W g t #[v0, v1, v2, v3, v4, v5, v6, v7, v8, v9, v10]) (hb : Below W.heap.size W w') : w'.cell? ⟨g, 0, none⟩ = some v0 ∧ w'.cell? ⟨g, 1, none⟩ = some v1 ∧ w'.cell? ⟨g, 2, none⟩ = some v2 ∧ w'.cell? ⟨g, 3, none⟩ = some v3 ∧ w'.cell? ⟨g, 4, none⟩ = some v4 ∧ w'.cell? ⟨g, 5, none⟩ = some v5 ∧ w'.cell? ⟨g, 6, none⟩ = some v6 ∧ w'.cell? ⟨g, 7, none⟩ = some v7 ∧ w'.cell? ⟨g, 8, none⟩ = some v8 ∧ w'.cell? ⟨g, 9, none⟩ = some v9 ∧ w'.cell? ⟨g, 10, none⟩ = some v10 := (h.later hb).c11.1
theorem atB4 (x y : Bool) : (((DataW.map [] : DataW Unit).put kBrake (.lit (.bool x))).put kPause (.lit (.bool y))).atKey kBrake (.lit (.bool false)) = .lit (.bool x) := by rfl
theorem atP4 (x y : Bool) : (((DataW.map [] : DataW Unit).put kBrake (.lit (.bool x))).put kPause (.lit (.bool y))).atKey kPause (.lit (.bool false)) = .lit (.bool y) := by rfl
theorem atB3 (x y : Bool) : (((DataW.map [] : DataW Unit).put kPause (.lit (.bool y))).put kBrake (.lit (.bool x))).atKey kBrake (.lit (.bool false)) = .lit (.bool x) := by rfl
theorem atP3 (x y : Bool) : (((DataW.map [] : DataW Unit).put kPause (.lit (.bool y))).put kBrake (.lit (.bool x))).atKey kPause (.lit (.bool false)) = .lit (.bool y) := by rfl
def Forb (b1 b2 : Bool) (w : World) (e : Ending) (w' : World) : Prop := ∃ (b : Nat) (D : DataW Unit), e = .returned (.map (some b)) ∧ w'.ownsMap Tryd.prog 9 (plainElem Tryd.prog 4) b 2 D ∧ D.atKey kBrake (.lit (.bool false)) = .lit (.bool b1) ∧ D.atKey kPause (.lit (.bool false)) = .lit (.bool b2) ∧ Below w.heap.size w w'
end Go.Proofs.YtdpoicfciogfnaaDoor

/- What follows what; legal inputs; a run begins. (Round B) -/
namespace Go.Proofs.YtdpoicfciogfnaaDoor
open Go.ChangeShapes Go.WideShapes Go.ChangeAt Go.RowKit Go.Maps
end Go.Proofs.YtdpoicfciogfnaaDoor

/- The program's InputsLegal. (Round B) -/
namespace Go.Proofs.YtdpoicfciogfnaaDoor
open Go.ChangeShapes Go.WideShapes Go.ChangeAt Go.RowKit Go.Maps
end Go.Proofs.YtdpoicfciogfnaaDoor

/- A channel with a buffer in one goroutine, for the kit's walk: a send with room, a receive of what lies there, a receive from a closed and empty one. No program is named here. -/
namespace Go.Proofs.YtdpoicfciogfnaaDoor
open Go.RowKit Go.Conc
/-- From the operations l of a region on, the code is left by Q. -/
def Ar (P : Program) (ops : Array Oper) (Q : Exit → Act → World → Prop) (l : List Nat) (a : Act) (w : World) : Prop :=
  ∀ (b : Frame) (k : List Item) (cs : List Frame), ∃ e a' w', Q e a' w' ∧ Arrives P (lone (b.at a (.inRegion ops l :: k)) cs w) b k cs e a' w'
section
variable {P : Program} {ops : Array Oper} {Q : Exit → Act → World → Prop} {a : Act} {w : World}
theorem wp_region_ar {id : Nat} (h : Ar P ops Q (List.range ops.size) a w) : (Code.region id ops false).wp P Q a w := fun b k cs =>
  let ⟨e, a', w', hq, harr⟩ := h b k cs; ⟨e, a', w', hq, .of_steps (.one step_region) harr⟩
theorem Ar.wp {l : List Nat} (h : wpOps P ops Q l a w) : Ar P ops Q l a w := wp_ops l a w h
theorem Ar.nil (h : Q .normal a w) : Ar P ops Q [] a w := fun _ _ _ => ⟨.normal, a, w, h, .one step_region_end⟩
theorem Ar.value {i : Nat} {rest : List Nat} {o : Oper} {v : Value} {w' : World} (ho : ops[i]? = some o) (hw : Region.wanted o (yielded ops a.tmps) = true)
    (hr : (execOp a.eval o).run P w = .ok (.value v) w') (h : Ar P ops Q rest (a.put o.dst v) w') : Ar P ops Q (i :: rest) a w := by
  intro b k cs
  obtain ⟨e, a', w'', hq, harr⟩ := h b k cs
  have hg := stepG_op (P := P) (b := b) (k := k) (cs := cs) (w := w) (rest := rest) ho hw
  refine ⟨e, a', w'', hq, .of_steps (.one (step_lone_go ?_)) harr⟩
  have hfin : (b.at a (.inRegion ops (i :: rest) :: k)).finish v = b.at (a.put o.dst v) (.inRegion ops rest :: k) := by rw [Frame.finish_at, ho]; rfl
  rw [hg, ← hfin]; simp [stepG.apply, hr]
theorem Ar.skip {i : Nat} {rest : List Nat} {o : Oper} {w' : World} (ho : ops[i]? = some o) (hw : Region.wanted o (yielded ops a.tmps) = true)
    (hr : (execOp a.eval o).run P w = .ok .skip w') (h : Ar P ops Q rest (a.put o.dst undef) w') : Ar P ops Q (i :: rest) a w := by
  intro b k cs
  obtain ⟨e, a', w'', hq, harr⟩ := h b k cs
  have hg := stepG_op (P := P) (b := b) (k := k) (cs := cs) (w := w) (rest := rest) ho hw
  refine ⟨e, a', w'', hq, .of_steps (.one (step_lone_go ?_)) harr⟩
  have hfin : (b.at a (.inRegion ops (i :: rest) :: k)).finish undef = b.at (a.put o.dst undef) (.inRegion ops rest :: k) := by rw [Frame.finish_at, ho]; rfl
  rw [hg, ← hfin]; simp [stepG.apply, hr]
theorem stepG_comm {b : Frame} {k : List Item} {cs : List Frame} {i : Nat} {rest : List Nat} {o : Oper} {cases : Array CommCase} {bl : Bool} {sh : CommShape} (ho : ops[i]? = some o) (hw : Region.wanted o (yielded ops a.tmps) = true)
    (hr : (execOp a.eval o).run P w = .ok (.comm cases bl sh) w) : ∃ es, stepG P true (G (b.at a (.inRegion ops (i :: rest) :: k)) cs) w = .comm (G (b.at a (.inRegion ops (i :: rest) :: k)) cs) cases bl sh w es := by
  have hg := stepG_op (P := P) (b := b) (k := k) (cs := cs) (w := w) (rest := rest) ho hw
  simp only [stepG.apply, Sem.runT_eq, hr] at hg
  exact ⟨_, hg⟩
theorem Ar.send {i : Nat} {rest : List Nat} {o : Oper} {c cap s r : Nat} {buf : Array Value} {v z : Value} {tm : Bool} (ho : ops[i]? = some o) (hw : Region.wanted o (yielded ops a.tmps) = true)
    (hr : (execOp a.eval o).run P w = .ok (.comm #[scase c v z] true .send) w) (hc : w.heap[c]? = some (.chan cap buf false s r tm)) (hroom : buf.size < cap)
    (h : Ar P ops Q rest (a.put o.dst undef) (w.setChan c cap (buf.push v) false (s + 1) r tm)) : Ar P ops Q (i :: rest) a w := by
  intro b k cs
  obtain ⟨e, a', w'', hq, harr⟩ := h b k cs
  obtain ⟨es, hs⟩ := stepG_comm (b := b) (k := k) (cs := cs) (rest := rest) ho hw hr
  refine ⟨e, a', w'', hq, .of_steps (.one ?_) harr⟩
  have hfin : (b.at a (.inRegion ops (i :: rest) :: k)).finish undef = b.at (a.put o.dst undef) (.inRegion ops rest :: k) := by rw [Frame.finish_at, ho]; rfl
  rw [← hfin]
  exact step_lone_send_room hs hc hroom
theorem Ar.recv {i : Nat} {rest : List Nat} {o : Oper} {c cap s r : Nat} {buf : Array Value} {z : Value} {tm closed ok : Bool} (ho : ops[i]? = some o) (hw : Region.wanted o (yielded ops a.tmps) = true)
    (hr : (execOp a.eval o).run P w = .ok (.comm #[rcase c z] true (.recv ok)) w) (hc : w.heap[c]? = some (.chan cap buf closed s r tm)) (hsome : 0 < buf.size)
    (h : Ar P ops Q rest (a.put o.dst (got ok (buf.getD 0 undef) true)) (w.setChan c cap (buf.extract 1 buf.size) closed s (r + 1) tm)) : Ar P ops Q (i :: rest) a w := by
  intro b k cs
  obtain ⟨e, a', w'', hq, harr⟩ := h b k cs
  obtain ⟨es, hs⟩ := stepG_comm (b := b) (k := k) (cs := cs) (rest := rest) ho hw hr
  refine ⟨e, a', w'', hq, .of_steps (.one ?_) harr⟩
  have hfin : (b.at a (.inRegion ops (i :: rest) :: k)).finish (got ok (buf.getD 0 undef) true) = b.at (a.put o.dst (got ok (buf.getD 0 undef) true)) (.inRegion ops rest :: k) := by rw [Frame.finish_at, ho]; rfl
  rw [← hfin]
  exact step_lone_recv_buf ok hs hc hsome
theorem Ar.shut {i : Nat} {rest : List Nat} {o : Oper} {c cap s r : Nat} {z : Value} {tm ok : Bool} (ho : ops[i]? = some o) (hw : Region.wanted o (yielded ops a.tmps) = true)
    (hr : (execOp a.eval o).run P w = .ok (.comm #[rcase c z] true (.recv ok)) w) (hc : w.heap[c]? = some (.chan cap #[] true s r tm))
    (h : Ar P ops Q rest (a.put o.dst (got ok z false)) w) : Ar P ops Q (i :: rest) a w := by
  intro b k cs
  obtain ⟨e, a', w'', hq, harr⟩ := h b k cs
  obtain ⟨es, hs⟩ := stepG_comm (b := b) (k := k) (cs := cs) (rest := rest) ho hw hr
  refine ⟨e, a', w'', hq, .of_steps (.one ?_) harr⟩
  have hfin : (b.at a (.inRegion ops (i :: rest) :: k)).finish (got ok z false) = b.at (a.put o.dst (got ok z false)) (.inRegion ops rest :: k) := by rw [Frame.finish_at, ho]; rfl
  rw [← hfin]
  exact step_lone_recv_shut ok hs hc
end
end Go.Proofs.YtdpoicfciogfnaaDoor

/- A tick of the program, whatever the input; the states of a run go through a channel. (Round B) -/
namespace Go.Proofs.YtdpoicfciogfnaaDoor
open Go.ChangeShapes Go.WideShapes Go.ChangeAt Go.RowKit Go.Conc
def encSt (s : St) : List Value := [.int .i64 s.t, .int .i64 s.p.x, .int .i64 s.p.y, .int .i64 s.f.x, .int .i64 s.f.y, .int .i64 s.d, .int .i64 s.g, .bool s.dn, .bool s.ov]
theorem encSt_len (s : St) : (encSt s).length = 9 := rfl
theorem one_st (s : St) : ∀ u ∈ encSt s, u.oneCell' = true := by
  intro u hu
  simp only [encSt, List.mem_cons, List.not_mem_nil, or_false] at hu
  rcases hu with rfl | rfl | rfl | rfl | rfl | rfl | rfl | rfl | rfl <;> rfl
def aggSt (s : St) : Value := .agg #[.int .i64 s.t, .int .i64 s.p.x, .int .i64 s.p.y, .int .i64 s.f.x, .int .i64 s.f.y, .int .i64 s.d, .int .i64 s.g, .bool s.dn, .bool s.ov]
def statesTo (l : Lev) (ins : List Inp) (k : Nat) : List St := (List.range k).map (runTo l ins)
theorem statesTo_succ (l : Lev) (ins : List Inp) (k : Nat) : statesTo l ins (k + 1) = statesTo l ins k ++ [runTo l ins k] := by
  unfold statesTo; rw [List.range_succ, List.map_append]; rfl
theorem statesTo_len (l : Lev) (ins : List Inp) (k : Nat) : (statesTo l ins k).length = k := by simp [statesTo]
theorem buf_succ (l : Lev) (ins : List Inp) (k : Nat) : ((statesTo l ins (k + 1)).map aggSt).toArray.push (aggSt (runTo l ins (k + 1))) = ((statesTo l ins (k + 1 + 1)).map aggSt).toArray := by
  rw [statesTo_succ l ins (k + 1), List.map_append]
  simp
theorem buf_size (l : Lev) (ins : List Inp) (k : Nat) : ((statesTo l ins k).map aggSt).toArray.size = k := by simp [statesTo_len]
/-- Block g is this object. -/
def Ob (w : World) (g : Nat) (o : Obj) : Prop := w.heap[g]? = some o
theorem Ob.lt {w : World} {g : Nat} {o : Obj} (h : Ob w g o) : g < w.heap.size := (Array.getElem?_eq_some_iff.1 h).1
theorem Ob.alloc {w : World} {g : Nat} {o : Obj} (h : Ob w g o) (o' : Obj) : Ob (w.alloc o') g o := (Below.heap_alloc w o' g h.lt).trans h
theorem Ob.later {w w' : World} {g : Nat} {o : Obj} (h : Ob w g o) (hb : Below w.heap.size w w') : Ob w' g o := (hb.block g h.lt).trans h
theorem Ob.far {w : World} {g : Nat} {o : Obj} (h : Ob w g o) {p : Addr} (hp : g ≠ p.block) (v : Value) : Ob (w.setCell p v) g o := (Below.heap_setCell w p v g hp).trans h
theorem Ob.grown {w w' : World} {g : Nat} {o : Obj} {row : Option Nat} (h : Ob w g o) (hg : w.grownBy w' row) (hne : some g ≠ row) : Ob w' g o := (hg.block g h.lt hne).trans h
theorem Ob.chan {w : World} {g : Nat} {o : Obj} (h : Ob w g o) (cap : Nat) (buf : Array Value) (cl : Bool) (s r : Nat) (tm : Bool) : Ob (w.setChan g cap buf cl s r tm) g (.chan cap buf cl s r tm) := heap_setChan _ _ _ _ _ _ _ _ h.lt
theorem heap_chan_ne {w : World} {g c : Nat} (h : g ≠ c) (cap : Nat) (buf : Array Value) (cl : Bool) (s r : Nat) (tm : Bool) : (w.setChan c cap buf cl s r tm).heap[g]? = w.heap[g]? := by
  simp only [World.setChan]
  rw [Array.getElem?_setIfInBounds_ne (by omega)]
theorem Bk.chan {w : World} {g c : Nat} {t : TypeId} {cs : Array Value} (h : Bk w g t cs) (hne : g ≠ c) (cap : Nat) (buf : Array Value) (cl : Bool) (s r : Nat) (tm : Bool) : Bk (w.setChan c cap buf cl s r tm) g t cs := (heap_chan_ne hne ..).trans h
def slLen : Value → Nat
  | .slice _ n _ => n
  | _ => 0
def restB (l : Lev) (ins : List Inp) (k : Nat) : Array Value := (((statesTo l ins (ins.length + 1)).drop k).map aggSt).toArray
theorem restB_size (l : Lev) (ins : List Inp) (k : Nat) : (restB l ins k).size = ins.length + 1 - k := by simp [restB, statesTo_len]
theorem statesTo_get (l : Lev) (ins : List Inp) {k n : Nat} (hk : k < n) : (statesTo l ins n)[k]? = some (runTo l ins k) := by
  unfold statesTo
  rw [List.getElem?_map, List.getElem?_range hk]
  rfl
theorem restB_cons (l : Lev) (ins : List Inp) {k : Nat} (hk : k < ins.length + 1) : restB l ins k = (aggSt (runTo l ins k) :: (((statesTo l ins (ins.length + 1)).drop (k + 1)).map aggSt)).toArray := by
  unfold restB
  have hl : k < (statesTo l ins (ins.length + 1)).length := by rw [statesTo_len]; exact hk
  have hg := statesTo_get l ins hk
  rw [List.getElem?_eq_getElem hl] at hg
  injection hg with hg
  rw [List.drop_eq_getElem_cons hl, List.map_cons, hg]
theorem restB_head (l : Lev) (ins : List Inp) {k : Nat} (hk : k < ins.length + 1) : (restB l ins k).getD 0 undef = aggSt (runTo l ins k) := by rw [restB_cons l ins hk]; rfl
theorem restB_tail (l : Lev) (ins : List Inp) {k : Nat} (hk : k < ins.length + 1) : (restB l ins k).extract 1 (restB l ins k).size = restB l ins (k + 1) := by
  have e : restB l ins (k + 1) = (((statesTo l ins (ins.length + 1)).drop (k + 1)).map aggSt).toArray := rfl
  rw [e, restB_cons l ins hk]
  simp
  rw [List.take_of_length_le (by simp)]
theorem Own.chan {α : Type} {w : World} {B : Nat} {T : TypeId} {sz : Nat} {enc : α → List Value} {v : Value} {l : List α} {c : Nat} {cap0 s0 r0 : Nat} {buf0 : Array Value} {cl0 tm0 : Bool} (h : Own w B T sz enc v l) (hc : Ob w c (.chan cap0 buf0 cl0 s0 r0 tm0)) (cap : Nat) (buf : Array Value) (cl : Bool) (s r : Nat) (tm : Bool) : Own (w.setChan c cap buf cl s r tm) B T sz enc v l := by
  refine ⟨h.1, ?_⟩
  rcases h.2 with hn | ⟨g, cp, cur, rfl, hB, hgg, rest⟩
  · exact .inl hn
  · refine .inr ⟨g, cp, cur, rfl, hB, (heap_chan_ne ?_ ..).trans hgg, rest⟩
    intro e
    subst e
    unfold Ob at hc
    rw [hgg] at hc
    cases hc
theorem Sl.oneAt {α : Type} {enc : α → List Value} {sz : Nat} (w : World) (x : α) (T : TypeId) (cs : Array Value) (hcs : cs.toList = enc x) {g : Nat} (hg : w.heap.size = g) : Sl (w.alloc (.cells cs T)) sz enc (some ⟨g, 0, none⟩) 1 [x] := hg ▸ Sl.one w x T cs hcs
structure RunW (l : Lev) (A : Option Addr) (c : Nat) (A' : Option Addr) (c' : Nat) (cb sb n k : Nat) (buf : Array Value) (v : St) (w W : World) : Prop where
  L : Bk W w.heap.size 87 #[.int .i64 l.id, .int .i64 l.ticks, .int .i64 l.start.x, .int .i64 l.start.y, .slice A l.walls.length c, .slice A' l.gates.length c', .int .i64 l.fin.lo.x, .int .i64 l.fin.lo.y, .int .i64 l.fin.hi.x, .int .i64 l.fin.hi.y, .int .i64 l.bans]
  C : Ob W cb (.chan (n + 1) buf false k 0 false)
  S : Bk W sb 132 #[.int .i64 v.t, .int .i64 v.p.x, .int .i64 v.p.y, .int .i64 v.f.x, .int .i64 v.f.y, .int .i64 v.d, .int .i64 v.g, .bool v.dn, .bool v.ov]
  B : Below w.heap.size w W
end Go.Proofs.YtdpoicfciogfnaaDoor

/- The program's runs: RunTo, RunScore. (Round B) -/
namespace Go.Proofs.YtdpoicfciogfnaaDoor
open Go.ChangeShapes Go.WideShapes Go.ChangeAt Go.RowKit
def zeroSt : St := ⟨0, ⟨0, 0⟩, ⟨0, 0⟩, 0, 0, false, false⟩
def toOk (l : Lev) (ins : List Inp) (n : Int) : Bool := runOk l ins && inR 0 ins.length n
def toR (l : Lev) (ins : List Inp) (n : Int) : St := if toOk l ins n then runTo l ins n.toNat else zeroSt
end Go.Proofs.YtdpoicfciogfnaaDoor

/- RunScore of the program, RunTo of the reference. (Round B) -/
namespace Go.Proofs.YtdpoicfciogfnaaDoor
open Go.ChangeShapes Go.WideShapes Go.ChangeAt Go.RowKit
theorem toOk_len (l : Lev) (ins : List Inp) : toOk l ins ins.length = runOk l ins := by
  unfold toOk
  rw [show inR 0 (ins.length : Int) (ins.length : Int) = true from inR_iff.2 ⟨by omega, by omega⟩, Bool.and_true]
theorem toR_len (l : Lev) (ins : List Inp) (h : runOk l ins = true) : toR l ins ins.length = runTo l ins ins.length := by
  unfold toR
  rw [toOk_len, h, if_pos rfl, Int.toNat_natCast]
end Go.Proofs.YtdpoicfciogfnaaDoor

/- The draws' kit: a reader that lies above the code that it reads; what a draw leaves alone. -/
namespace Go.Proofs.YtdpoicfciogfnaaDoor
open Go.ChangeShapes Go.WideShapes Go.ChangeAt Go.RowKit
section
variable {w w1 w2 : World} {row : Option Nat} {R n : Nat}
theorem gr_alloc (h : w.grownBy w1 row) (o : Obj) : w.grownBy (w1.alloc o) row := grownBy_trans h (grown_of_below (below_alloc (Below.refl _ _) o))
theorem gr_set {p : Addr} (hp : w.heap.size ≤ p.block) (h : w.grownBy w1 row) (u : Value) : w.grownBy (w1.setCell p u) row :=
  ⟨h.os, h.tape, h.output, by simpa using h.size, fun k hk hn => (heap_setCell_other w1 p k u (fun e => by omega)).trans (h.block k hk hn)⟩
theorem gr_drew (h : w.grownBy w1 row) : w.grownBy w1.drew row := ⟨h.os, h.tape, h.output, h.size, h.block⟩
theorem gr_drewN (h : w.grownBy w1 row) (n : Nat) : w.grownBy (w1.drewN n) row := ⟨h.os, h.tape, h.output, h.size, h.block⟩
theorem gr_after (h : w.grownBy w1 row) (h2 : w1.grownBy w2 row) : w.grownBy w2 row := grownBy_trans h h2
theorem gr_below (h : w.grownBy w1 row) (h2 : Below w1.heap.size w1 w2) : w.grownBy w2 row := grownBy_trans h (grown_of_below h2)
/-- A change of a row that the call itself has made. -/
theorem gr_own {row' : Option Nat} (h : w.grownBy w1 row) (h2 : w1.grownBy w2 row') (hn : ∀ g, row' = some g → w.heap.size ≤ g) : w.grownBy w2 row :=
  ⟨h2.os.trans h.os, h2.tape.trans h.tape, h2.output.trans h.output, Nat.le_trans h.size h2.size, fun k hk hne => (h2.block k (Nat.lt_of_lt_of_le hk h.size) (fun e => by have := hn k e.symm; omega)).trans (h.block k hk hne)⟩
/-- A reader at block R, of which at most n picks have been made; what it reads lies below it. -/
def RdL (w : World) (R n : Nat) : Prop := ∃ p, p ≤ n ∧ Rd w R p
theorem RdL.lt (h : RdL w R n) : R < w.heap.size := by
  obtain ⟨p, _, A, m, c, l, _, _, _, _, _, _, _, hR⟩ := h
  exact hR
theorem RdL.keep (h : RdL w R n) (hk : ∀ k, k ≤ R → w1.heap[k]? = w.heap[k]?) (hs : w.heap.size ≤ w1.heap.size) : RdL w1 R n := by
  obtain ⟨p, hp, A, m, c, l, hm, h0, h1, h2, hsl, hl, hne, hR⟩ := h
  have hc : ∀ k o, k ≤ R → w1.cell? ⟨k, o, none⟩ = w.cell? ⟨k, o, none⟩ := fun k o hkR => World.cell?_of_block (a := ⟨k, o, none⟩) (hk k hkR)
  have hf : ∀ k o, k ≤ R → w1.frozen? ⟨k, o, none⟩ = w.frozen? ⟨k, o, none⟩ := fun k o hkR => by
    unfold World.frozen?
    simp only [hk k hkR]
  refine ⟨p, hp, A, m, c, l, hm, (hc R 0 (Nat.le_refl _)).trans h0, (hc R 1 (Nat.le_refl _)).trans h1, (hf R 1 (Nat.le_refl _)).trans h2, ?_, hl, hne, by omega⟩
  refine ⟨hsl.1, fun hpos => ?_⟩
  obtain ⟨b, off, e, hlt, hx⟩ := hsl.2 hpos
  have hbR : b < R := hne hpos _ e
  exact ⟨b, off, e, by omega, fun k x hkx j v hv => (hc b _ (by omega)).trans (hx k x hkx j v hv)⟩
theorem RdL.alloc (h : RdL w R n) (o : Obj) : RdL (w.alloc o) R n := h.keep (fun k hk => Below.heap_alloc w o k (by have := h.lt; omega)) (by simp)
theorem RdL.far (h : RdL w R n) {p : Addr} (hp : R < p.block) (u : Value) : RdL (w.setCell p u) R n := h.keep (fun k hk => heap_setCell_other w p k u (by omega)) (by simp)
theorem RdL.drew (h : RdL w R n) : RdL w.drew R n := h
theorem RdL.drewN (h : RdL w R n) (k : Nat) : RdL (w.drewN k) R n := h
theorem RdL.later (h : RdL w R n) (hb : Below w.heap.size w w1) : RdL w1 R n := h.keep (fun k hk => hb.block k (by have := h.lt; omega)) hb.size
theorem RdL.own (h : RdL w R n) {row' : Option Nat} (hg : w.grownBy w1 row') (hn : ∀ g, row' = some g → R < g) : RdL w1 R n :=
  h.keep (fun k hk => hg.block k (by have := h.lt; omega) (fun e => by have := hn k e.symm; omega)) hg.size
theorem RdL.more (h : RdL w R n) {m : Nat} (hm : n ≤ m) : RdL w R m := by
  obtain ⟨p, hp, hr⟩ := h
  exact ⟨p, by omega, hr⟩
end
/-- What a pick hands back. -/
def RetPk (m : Int) (R n : Nat) (w : World) (e : Ending) (w' : World) : Prop :=
  ∃ x : Int, e = .returned (.int .i64 x) ∧ 0 ≤ x ∧ x < m ∧ RdL w' R (n + 1) ∧ w.grownBy w' (some R)
theorem pick_n (R n : Nat) (m : Int) (w : World) (h : RdL w R n) (hn : n ≤ 1000000) (hm0 : 1 ≤ m) (hm : m ≤ 1000000000) :
    Calls Tryd.prog 72 #[.pointer (some ⟨R, 0, none⟩), .int .i64 m] w (RetPk m R n w) := by
  obtain ⟨p, hp, hr⟩ := h
  refine (pick_any R p m w hr (by omega) (by omega) (by omega)).mono ?_
  rintro e w1 ⟨x, rfl, hx0, hx1, hr1, hg1⟩
  exact ⟨x, rfl, hx0, by omega, ⟨p + 1, by omega, hr1⟩, hg1⟩
/-- The head of a draw: the reader of its code. -/
def RetOpL (w : World) (e : Ending) (w' : World) : Prop := ∃ R, e = .returned (.pointer (some ⟨R, 0, none⟩)) ∧ w.heap.size ≤ R ∧ RdL w' R 0 ∧ Below w.heap.size w w'
theorem l6Open_n (A : Option Addr) (n c : Nat) (l : List Int) (w : World) (h : Sl w 1 encU8 A n l) (hl : ∀ x ∈ l, 0 ≤ x ∧ x < 256) (hn : n ≤ 9223372036854775807) (hnc : n ≤ c) (hc : c ≤ 9223372036854775807) :
    Calls Tryd.prog 52 #[.slice A n c] w (RetOpL w) := by
  refine (l6Open_any A n c l w h hl hn hnc hc).mono ?_
  rintro e w1 ⟨R, rfl, hR, hr, hb⟩
  exact ⟨R, rfl, hR, ⟨0, Nat.le_refl _, hr⟩, hb⟩
/-- A drawn input. -/
def smI (x : Inp) : Prop := -100 ≤ x.s ∧ x.s ≤ 100 ∧ -100 ≤ x.p ∧ x.p ≤ 100
def RetInp (P : Inp → Prop) (R n : Nat) (w : World) (e : Ending) (w' : World) : Prop :=
  ∃ x : Inp, e = .returned (.agg #[.int .i64 x.s, .int .i64 x.p, .bool x.z]) ∧ P x ∧ RdL w' R n ∧ w.grownBy w' (some R)
end Go.Proofs.YtdpoicfciogfnaaDoor

/- The program's hashes. (Round B) -/
namespace Go.Proofs.YtdpoicfciogfnaaDoor
open Go.ChangeShapes Go.WideShapes Go.ChangeAt Go.RowKit
theorem lt_alloc {w : World} {o : Obj} {b : Nat} (h : (w.alloc o).heap.size ≤ b) : w.heap.size < b := by simp at h; omega
theorem below_fresh {w : World} {o : Obj} {w' : World} (h : Below (w.alloc o).heap.size (w.alloc o) w') : Below w.heap.size w w' := below_after (below_alloc (Below.refl _ _) _) h
theorem le_of_drew {w : World} {b : Nat} (h : w.drew.heap.size ≤ b) : w.heap.size ≤ b := by simpa using h
theorem below_of_drew {w w' : World} (h : Below w.drew.heap.size w.drew w') : Below w.heap.size w w' := below_after (below_drew (Below.refl _ _)) h
theorem below_own {W w1 w3 : World} {b : Nat} (h : Below W.heap.size W w1) (hg : w1.grownBy w3 (some b)) (hb : W.heap.size ≤ b) : Below W.heap.size W w3 := h.grown hg h.size (fun k e => by cases e; exact hb)
theorem hstep_walk (h n : Int) : (h * 8191 + n.tmod 1000003 % 1000003 + 1) % 1000003 = hstep h n := by
  have e := Int.tmod_add_mul_tdiv n 1000003
  generalize n.tmod 1000003 = r at *
  generalize n.tdiv 1000003 = q at *
  have e2 : r % 1000003 = n % 1000003 := by omega
  unfold hstep
  rw [e2, Int.mul_comm h 8191]
theorem sl8 (w : World) (T : TypeId) (a0 a1 a2 a3 a4 a5 a6 a7 : Int) : Sl (w.alloc (.cells #[.int .i64 a0, .int .i64 a1, .int .i64 a2, .int .i64 a3, .int .i64 a4, .int .i64 a5, .int .i64 a6, .int .i64 a7] T)) 1 encInt (some ⟨w.heap.size, 0, none⟩) 8 [a0, a1, a2, a3, a4, a5, a6, a7] :=
  Sl.lit _ _ _ _ _ 8 rfl rfl (by simp [encInt])
def all8 (a0 a1 a2 a3 a4 a5 a6 a7 : Int) : Prop := ∀ x ∈ [a0, a1, a2, a3, a4, a5, a6, a7], int64 x
theorem keepS7 {W w' : World} {b : Nat} {T : TypeId} {a0 a1 a2 a3 a4 a5 a6 a7 a8 : Value} (h : Bk W b T #[a0, a1, a2, a3, a4, a5, a6, a7, a8]) (hb : Below W.heap.size W w') :
    w'.cell? ⟨b, 0, none⟩ = some a0 ∧ w'.cell? ⟨b, 1, none⟩ = some a1 ∧ w'.cell? ⟨b, 2, none⟩ = some a2 ∧ w'.cell? ⟨b, 3, none⟩ = some a3 ∧ w'.cell? ⟨b, 4, none⟩ = some a4 ∧ w'.cell? ⟨b, 5, none⟩ = some a5 ∧ w'.cell? ⟨b, 6, none⟩ = some a6 := by
  have k := h.later hb
  exact ⟨k.cell 0, k.cell 1, k.cell 2, k.cell 3, k.cell 4, k.cell 5, k.cell 6⟩
end Go.Proofs.YtdpoicfciogfnaaDoor

/- The program's RunHashes and RunPath; the reference's RunPath. (Round B) -/
namespace Go.Proofs.YtdpoicfciogfnaaDoor
open Go.ChangeShapes Go.WideShapes Go.ChangeAt Go.RowKit
theorem flag_ff (t d g : Int) (p f : V2) : flagOf ⟨t, p, f, d, g, false, false⟩ = 0 := rfl
theorem flag_ft (t d g : Int) (p f : V2) : flagOf ⟨t, p, f, d, g, false, true⟩ = 2 := rfl
theorem flag_tf (t d g : Int) (p f : V2) : flagOf ⟨t, p, f, d, g, true, false⟩ = 1 := rfl
theorem stCells {w : World} {b k : Nat} {s : St} (h : ∀ (j : Nat) (v : Value), (encSt s)[j]? = some v → w.cell? ⟨b, k + j, none⟩ = some v) : w.cell? ⟨b, k, none⟩ = some (.int .i64 s.t) ∧ w.cell? ⟨b, k + 1, none⟩ = some (.int .i64 s.p.x) ∧ w.cell? ⟨b, k + 2, none⟩ = some (.int .i64 s.p.y) ∧ w.cell? ⟨b, k + 3, none⟩ = some (.int .i64 s.f.x) ∧ w.cell? ⟨b, k + 4, none⟩ = some (.int .i64 s.f.y) ∧ w.cell? ⟨b, k + 5, none⟩ = some (.int .i64 s.d) ∧ w.cell? ⟨b, k + 6, none⟩ = some (.int .i64 s.g) ∧ w.cell? ⟨b, k + 7, none⟩ = some (.bool s.dn) ∧ w.cell? ⟨b, k + 8, none⟩ = some (.bool s.ov) :=
  ⟨h 0 _ rfl, h 1 _ rfl, h 2 _ rfl, h 3 _ rfl, h 4 _ rfl, h 5 _ rfl, h 6 _ rfl, h 7 _ rfl, h 8 _ rfl⟩
def pathTo (l : Lev) (ins : List Inp) (k : Nat) : List V2 := (List.range k).map fun i => (runTo l ins i).p
def pathR (l : Lev) (ins : List Inp) : List V2 := if runOk l ins then pathTo l ins (ins.length + 1) else []
theorem pathTo_succ (l : Lev) (ins : List Inp) (k : Nat) : pathTo l ins (k + 1) = pathTo l ins k ++ [(runTo l ins k).p] := by
  unfold pathTo; rw [List.range_succ, List.map_append]; rfl
theorem pathTo_len (l : Lev) (ins : List Inp) (k : Nat) : (pathTo l ins k).length = k := by simp [pathTo]
theorem Tryd.infoVec : (Tryd.prog.info? 82).map (fun i => (i.zero, i.size, i.bytes)) = some (some (.agg #[.int .i64 0, .int .i64 0]), 2, 16) := by kernel_rfl
theorem one_v2 : ∀ y : V2, ∀ u ∈ encV2 y, u.oneCell' = true := by
  intro y u hu
  simp only [encV2, List.mem_cons, List.not_mem_nil, or_false] at hu
  rcases hu with rfl | rfl <;> rfl
end Go.Proofs.YtdpoicfciogfnaaDoor
